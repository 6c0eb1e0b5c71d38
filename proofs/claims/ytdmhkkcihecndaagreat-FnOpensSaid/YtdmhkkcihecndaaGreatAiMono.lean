/- An operation that is told with a part of memory is told alike with all of it. -/
import Derived.Test.YtdmhkkcihecndaaGreatAiReg
set_option linter.unusedVariables false
set_option linter.unusedSimpArgs false
namespace Go.AI
def Le (h h':aw):Prop:= ∀b k,h b=some k→h' b=some k
section
variable {h h':aw}
theorem QM (L:Le h h') {v:V} {r:V×List Nat} (hs:nu h v=some r):nu h' v=some r:=by
 cases v with
 |sl b s n=>
  simp only [nu] at hs ⊢
  cases hb:h b with
  |none=>rw [hb] at hs;cases hs
  |some k=>rw [hb] at hs;rw [L b k hb];exact hs
 |_=>exact hs
theorem E7 (L:Le h h'): ∀{vs:List V} {r:List V×List Nat},jh h vs=some r→jh h' vs=some r
 |[],r,hs=>hs
 |v::vs,r,hs=>by
  simp only [jh] at hs ⊢
  cases h1:nu h v with
  |none=>rw [h1] at hs;cases hs
  |some p=>
   rw [h1] at hs
   rw [QM L h1]
   cases h2:jh h vs with
   |none=>rw [h2] at hs;cases hs
   |some q=>rw [h2] at hs;rw [E7 L h2];exact hs
theorem Bb (L:Le h h') {e:Nat} {v:V} {r:List (List V)} (hs:co h e v=some r):co h' e v=some r:=by
 cases v with
 |sl b s n=>
  simp only [co] at hs ⊢
  cases hb:h b with
  |none=>rw [hb] at hs;cases hs
  |some k=>rw [hb] at hs;rw [L b k hb];exact hs
 |lit y=>
  cases y with
  |slice a n c=>cases a<;>cases n<;>cases c<;>exact hs
  |_=>exact hs
 |_=>exact hs
theorem a0i (L:Le h h') {g:Option Nat} {v r:V} (hs:sX g h v=some r):sX g h' v=some r:=by
 cases v with
 |ptr b i o n=>
  simp only [sX] at hs ⊢
  cases hb:h b with
  |none=>rw [hb] at hs;cases hs
  |some k=>rw [hb] at hs;rw [L b k hb];exact hs
 |_=>exact hs
theorem Bq (L:Le h h') {ev:Opd→V}: ∀{ps:List (Nat×Opd)} {r:List (Nat×V)×List Nat},ct h ev ps=some r→ct h' ev ps=some r
 |[],r,hs=>hs
 | (i,x)::ps,r,hs=>by
   simp only [ct] at hs ⊢
   cases h1:jh h (ev x).cells with
   |none=>rw [h1] at hs;cases hs
   |some p=>
    rw [h1] at hs
    rw [E7 L h1]
    cases h2:ct h ev ps with
    |none=>rw [h2] at hs;cases hs
    |some q=>rw [h2] at hs;rw [Bq L h2];exact hs
theorem EJ (L:Le h h') {own:Bool} {ids:List Nat} {v:V} {r:V×List Nat×List Nat} (hs:cF h own ids v=some r):cF h' own ids v=some r:=by
 cases v with
 |ptr b i o n=>
  simp only [cF] at hs ⊢
  cases hb:h b with
  |none=>rw [hb] at hs;cases hs
  |some k=>rw [hb] at hs;rw [L b k hb];exact hs
 |sl b s n=>
  simp only [cF] at hs ⊢
  cases hb:h b with
  |none=>rw [hb] at hs;cases hs
  |some k=>rw [hb] at hs;rw [L b k hb];exact hs
 |fn f cs=>cases cs<;>exact hs
 |_=>exact hs
theorem vY (L:Le h h') {own:Bool}: ∀{vs:List V} {ids:List Nat} {r:List V×List Nat×List Nat},cB h own ids vs=some r→cB h' own ids vs=some r
 |[],ids,r,hs=>hs
 |v::vs,ids,r,hs=>by
  simp only [cB] at hs ⊢
  cases h1:cF h own ids v with
  |none=>rw [h1] at hs;cases hs
  |some p=>
   obtain ⟨a,b,c⟩:=p
   rw [h1] at hs
   rw [EJ L h1]
   dsimp only at hs ⊢
   cases h2:cB h own b vs with
   |none=>rw [h2] at hs;cases hs
   |some q=>rw [h2] at hs;rw [vY L h2];exact hs
theorem JR (L:Le h h') {own:Bool} {ids:List Nat} {v:V} {r:V×List Nat×List Nat} (hs:de h own ids v=some r):de h' own ids v=some r:=by
 have other: ∀v,de h own ids v=cF h own ids v→de h' own ids v=cF h' own ids v→de h own ids v=some r→de h' own ids v=some r:=fun v e1 e2 e3=>by
  rw [e1] at e3;rw [e2];exact EJ L e3
 cases v with
 |agg cs=>
  simp only [de] at hs ⊢
  cases h1:cB h own ids cs with
  |none=>rw [h1] at hs;cases hs
  |some p=>rw [h1] at hs;rw [vY L h1];exact hs
 |fn f cs=>
  simp only [de] at hs ⊢
  cases h1:cB h true ids cs with
  |none=>rw [h1] at hs;cases hs
  |some p=>rw [h1] at hs;rw [vY L h1];exact hs
 |lit v=>exact other _ rfl rfl hs
 |tup v=>exact other _ rfl rfl hs
 |ptr b i o n=>exact other _ rfl rfl hs
 |sl b s n=>exact other _ rfl rfl hs
 |imm e r=>exact other _ rfl rfl hs
 |iptr r o=>exact other _ rfl rfl hs
 |undef=>exact other _ rfl rfl hs
theorem Gt (L:Le h h') {owns:List Nat}: ∀{vs:List V} {j:Nat} {ids:List Nat} {r:List V×List Nat×List Nat},fM h owns j ids vs=some r→fM h' owns j ids vs=some r
 |[],j,ids,r,hs=>hs
 |v::vs,j,ids,r,hs=>by
  simp only [fM] at hs ⊢
  cases h1:de h (j∈owns) ids v with
  |none=>rw [h1] at hs;cases hs
  |some p=>
   obtain ⟨a,b,c⟩:=p
   rw [h1] at hs
   rw [JR L h1]
   dsimp only at hs ⊢
   cases h2:fM h owns (j+1) b vs with
   |none=>rw [h2] at hs;cases hs
   |some q=>rw [h2] at hs;rw [Gt L h2];exact hs
theorem NO (L:Le h h'): ∀{vs:List V} {ids:List Nat} {r:List V×List Nat},mP h ids vs=some r→mP h' ids vs=some r
 |[],ids,r,hs=>hs
 |v::vs,ids,r,hs=>by
  simp only [mP] at hs ⊢
  cases h1:de h true ids v with
  |none=>rw [h1] at hs;cases hs
  |some p=>
   obtain ⟨a,b,c⟩:=p
   rw [h1] at hs
   rw [JR L h1]
   dsimp only at hs ⊢
   cases h2:mP h b vs with
   |none=>rw [h2] at hs;cases hs
   |some q=>rw [h2] at hs;rw [NO L h2];exact hs
theorem F4 (L:Le h h'): ∀{rs:List (List V)} {ids:List Nat} {r:List (List V)×List Nat},kh h ids rs=some r→kh h' ids rs=some r
 |[],ids,r,hs=>hs
 |v::vs,ids,r,hs=>by
  simp only [kh] at hs ⊢
  cases h1:mP h ids v with
  |none=>rw [h1] at hs;cases hs
  |some p=>
   obtain ⟨a,b⟩:=p
   rw [h1] at hs
   rw [NO L h1]
   dsimp only at hs ⊢
   cases h2:kh h b vs with
   |none=>rw [h2] at hs;cases hs
   |some q=>rw [h2] at hs;rw [F4 L h2];exact hs
theorem yj (L:Le h h'): ∀{fuel pos:Nat} {ids:List Nat} {r:List Blk×List Nat},cT h fuel pos ids=some r→cT h' fuel pos ids=some r
 |0,pos,ids,r,hs=>by simp [cT] at hs
 |fuel+1,pos,ids,r,hs=>by
  simp only [cT] at hs ⊢
  cases hp:ids[pos]? with
  |none=>rw [hp] at hs;exact hs
  |some b=>
   rw [hp] at hs
   dsimp only at hs ⊢
   cases hb:h b with
   |none=>rw [hb] at hs;cases hs
   |some k=>
    rw [hb] at hs
    rw [L b k hb]
    dsimp only at hs ⊢
    split at hs
    ·rename_i ho
     rw [if_pos ho]
     cases h1:cT h fuel (pos+1) ids with
     |none=>rw [h1] at hs;cases hs
     |some p=>rw [h1] at hs;rw [yj L h1];exact hs
    ·rename_i ho
     rw [if_neg ho]
     cases h1:kh h ids k.rows with
     |none=>rw [h1] at hs;cases hs
     |some p=>
      obtain ⟨rows,ids1⟩:=p
      rw [h1] at hs
      rw [F4 L h1]
      dsimp only at hs ⊢
      cases h2:cT h fuel (pos+1) ids1 with
      |none=>rw [h2] at hs;cases hs
      |some q=>rw [h2] at hs;rw [yj L h2];exact hs
theorem P9 (L:Le h h') {owns:FuncId→List Nat} {f:FuncId} {args:List V} {r:List V×List Blk×List Nat×List Nat} (hs:cI owns h f args=some r):cI owns h' f args=some r:=by
 unfold cI at hs ⊢
 cases h1:fM h (owns f) 0 [] args with
 |none=>rw [h1] at hs;cases hs
 |some p=>
  obtain ⟨a,ids0,bor⟩:=p
  rw [h1] at hs
  rw [Gt L h1]
  dsimp only at hs ⊢
  cases h2:cT h 40 0 ids0 with
  |none=>rw [h2] at hs;cases hs
  |some q=>rw [h2] at hs;rw [yj L h2];exact hs
theorem Jq: ∀(ids:List Nat) (M:List Blk),(jP ids M).map (·.1)=ids.take M.length
 |[],M=>by simp [jP]
 |i::r,[]=>by simp [jP]
 |i::r,k::s=>by simp [jP,Jq r s]
theorem Ri (L:Le h h') {C:ba} {owns:FuncId→List Nat} {new:Nat} {f:FuncId} {args:List V} {v:V} {u:Upd} (hs:jM C owns h new f args=some (v,u)) (hn: ∀b∈u.map (·.1),h b=none→h' b=none):
 jM C owns h' new f args=some (v,u):=by
 unfold jM at hs ⊢
 cases h1:cI owns h f args with
 |none=>rw [h1] at hs;cases hs
 |some p=>
  obtain ⟨args',blks,ids,bor⟩:=p
  rw [h1] at hs
  rw [P9 L h1]
  dsimp only at hs ⊢
  cases h2:C f (oC (owns f) args') (oV (owns f) blks) with
  |none=>rw [h2] at hs;cases hs
  |some q=>
   obtain ⟨r,blks'⟩:=q
   rw [h2] at hs
   dsimp only at hs ⊢
   unfold wO at hs ⊢
   split at hs
   ·rename_i hc
    cases hs
    refine if_pos ⟨hc.1,List.all_eq_true.2 fun b hb=> ?_⟩
    have hb0:h b=none:=by simpa using List.all_eq_true.1 hc.2 b hb
    rw [hn b ?_ hb0]
    ·rfl
    ·rw [List.map_append,List.mem_append,Jq,List.length_map]
     left
     rw [List.take_of_length_le (by rw [List.length_append];have:=tZ (n:=new) hc.1;omega)]
     exact List.mem_append.2 (.inr hb)
   ·cases hs
theorem i4 {n:Nat} {k:Blk} {v:V} {r:V×Upd} (hs:jH h n k v=some r) (hn: ∀b∈r.2.map (·.1),h b=none→h' b=none):jH h' n k v=some r:=by
 unfold jH at hs ⊢
 split at hs
 ·rename_i hc
  cases hs
  rw [if_pos ⟨by rw [hn n (by simp) (by simpa using hc.1)];rfl,hc.2⟩]
 ·cases hs
theorem a56 (L:Le h h') {C:ba} {ow:FuncId→List Nat} {o:AOp} {ev:Opd→V} {new:Nat} {v:V} {u:Upd} (hs:aj C ow o ev h new=some (v,u)) (hn: ∀b∈u.map (·.1),h b=none→h' b=none):
 aj C ow o ev h' new=some (v,u):=by
 cases o with
 |alloc z=>
  simp only [aj] at hs ⊢
  split at hs
  ·rename_i hc;rw [if_pos hc];exact i4 hs hn
  ·cases hs
 |box s x=>
  simp only [aj] at hs ⊢
  split at hs
  ·rename_i hc;rw [if_pos hc];exact i4 hs hn
  ·cases hs
 |buildSlice e z n ps=>
  simp only [aj] at hs ⊢
  cases h1:ct h ev ps with
  |none=>rw [h1] at hs;cases hs
  |some p=>
   obtain ⟨qs,bs⟩:=p
   rw [h1] at hs
   rw [Bq L h1]
   dsimp only at hs ⊢
   split at hs
   ·rename_i rows hr
    split at hs
    ·rename_i hc
     rw [if_pos hc]
     cases hf:jH h new ⟨e,false,rows⟩ (.sl new 0 n) with
     |none=>rw [hf] at hs;cases hs
     |some q=>
      rw [hf] at hs
      cases hs
      rw [i4 hf (fun b hm h0=>hn b (by rw [List.map_append,List.mem_append];exact .inr hm) h0)]
    ·cases hs
   ·cases hs
 |load g a=>
  simp only [aj] at hs ⊢
  cases h1:sX g h (ev a) with
  |none=>rw [h1] at hs;cases hs
  |some p=>rw [h1] at hs;rw [a0i L h1];exact hs
 |store s a x=>
  simp only [aj] at hs ⊢
  cases hev:ev a with
  |ptr b i o n=>
   rw [hev] at hs
   dsimp only at hs ⊢
   cases hb:h b with
   |none=>rw [hb] at hs;cases hs
   |some k=>
    rw [hb] at hs
    rw [L b k hb]
    dsimp only at hs ⊢
    split at hs
    ·rename_i hc
     rw [if_pos hc]
     split at hs
     ·rename_i row hr
      split at hs
      ·rename_i ho;rw [if_pos ho];exact hs
      ·rename_i ho
       rw [if_neg ho]
       cases h1:jh h (ev x).cells with
       |none=>rw [h1] at hs;cases hs
       |some p=>rw [h1] at hs;rw [E7 L h1];exact hs
     ·cases hs
    ·cases hs
  |_=>rw [hev] at hs;cases hs
 |nilCheck x=>
  simp only [aj] at hs ⊢
  cases hev:ev x with
  |ptr b i o n=>
   rw [hev] at hs
   dsimp only at hs ⊢
   cases hb:h b with
   |none=>rw [hb] at hs;cases hs
   |some k=>rw [hb] at hs;rw [L b k hb];exact hs
  |_=>rw [hev] at hs;exact hs
 |toBytes x=>
  simp only [aj] at hs ⊢
  split at hs
  ·rename_i s hev
   split at hs
   ·rename_i hc;exact (if_pos hc).trans (i4 hs hn)
   ·cases hs
  ·cases hs
 |toStr x=>
  simp only [aj] at hs ⊢
  split at hs
  ·cases hs
  ·rename_i hc
   rw [if_neg hc]
   cases h1:co h 1 (ev x) with
   |none=>rw [h1] at hs;cases hs
   |some p=>rw [h1] at hs;rw [Bb L h1];exact hs
 |makeSlice e by_ z l c=>
  simp only [aj] at hs ⊢
  split at hs
  ·rename_i a b h1 h2
   split at hs
   ·rename_i hc;exact (if_pos hc).trans (i4 hs hn)
   ·cases hs
  ·cases hs
 |slice e x lo hi mx=>
  cases mx with
  |some m=>exact hs
  |none=>
   simp only [aj] at hs ⊢
   cases hev:ev x with
   |sl b s n=>
    rw [hev] at hs
    dsimp only at hs ⊢
    cases hb:h b with
    |none=>rw [hb] at hs;cases hs
    |some k=>rw [hb] at hs;rw [L b k hb];exact hs
   |lit y=>
    rw [hev] at hs
    cases y with
    |slice a n c=>cases a<;>cases n<;>cases c<;>exact hs
    |_=>exact hs
   |_=>rw [hev] at hs;exact hs
 |idx e x i=>
  simp only [aj] at hs ⊢
  cases hi:asI (ev i) with
  |none=>rw [hi] at hs;cases hs
  |some q=>
   rw [hi] at hs
   dsimp only at hs ⊢
   split at hs
   ·rename_i hc
    rw [if_pos hc]
    cases hev:ev x with
    |sl b s n=>
     rw [hev] at hs
     dsimp only at hs ⊢
     cases hb:h b with
     |none=>rw [hb] at hs;cases hs
     |some k=>rw [hb] at hs;rw [L b k hb];exact hs
    |_=>rw [hev] at hs;exact hs
   ·cases hs
 |append e by_ z x y=>
  simp only [aj] at hs ⊢
  cases h1:co h e (ev y) with
  |none=>rw [h1] at hs;cases hs
  |some ns=>
   rw [h1] at hs
   rw [Bb L h1]
   dsimp only at hs ⊢
   split at hs
   ·rename_i hc
    rw [if_pos hc]
    split at hs
    ·rename_i b n hev
     cases hb:h b with
     |none=>rw [hb] at hs;cases hs
     |some k=>rw [hb] at hs;rw [L b k hb];exact hs
    ·exact i4 hs hn
    ·exact i4 hs hn
    ·cases hs
   ·cases hs
 |appendN e by_ z x y=>
  simp only [aj] at hs ⊢
  split at hs
  ·rename_i l hl
   split at hs
   ·rename_i hc
    rw [if_pos hc]
    unfold Ea at hs ⊢
    split at hs
    ·rename_i hc
     rw [if_pos hc]
     split at hs
     ·rename_i b n hev
      cases hb:h b with
      |none=>rw [hb] at hs;cases hs
      |some k=>rw [hb] at hs;rw [L b k hb];exact hs
     ·exact i4 hs hn
     ·exact i4 hs hn
     ·cases hs
    ·cases hs
   ·cases hs
  ·cases hs
 |copy e x y=>
  simp only [aj] at hs ⊢
  cases h1:co h e (ev y) with
  |none=>rw [h1] at hs;cases hs
  |some ns=>
   rw [h1] at hs
   rw [Bb L h1]
   cases hev:ev x with
   |sl b s n=>
    rw [hev] at hs
    dsimp only at hs ⊢
    cases hb:h b with
    |none=>rw [hb] at hs;cases hs
    |some k=>rw [hb] at hs;rw [L b k hb];exact hs
   |_=>rw [hev] at hs;cases hs
 |arrOf n x=>
  simp only [aj] at hs ⊢
  cases h1:nu h (ev x) with
  |none=>rw [h1] at hs;cases hs
  |some p=>rw [h1] at hs;rw [QM L h1];exact hs
 |bytesOwn x=>
  simp only [aj] at hs ⊢
  cases hev:ev x with
  |sl b s n=>
   rw [hev] at hs
   dsimp only at hs ⊢
   cases hb:h b with
   |none=>rw [hb] at hs;cases hs
   |some k=>rw [hb] at hs;rw [L b k hb];exact hs
  |_=>rw [hev] at hs;cases hs
 |call f args=>exact Ri L hs hn
 |dyn f args=>
  simp only [aj] at hs ⊢
  split at hs
  ·rename_i hev;exact Ri L hs hn
  ·cases hs
 |_=>exact hs
end
end Go.AI
