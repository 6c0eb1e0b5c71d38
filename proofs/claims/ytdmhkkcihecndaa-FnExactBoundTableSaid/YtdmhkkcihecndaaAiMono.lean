/- An operation that is told with a part of memory is told alike with all of it. -/
import Derived.Test.YtdmhkkcihecndaaAiCall3
set_option linter.unusedVariables false
set_option linter.unusedSimpArgs false
namespace Go.AI
def Le (h h':a8):Prop:= ∀b k,h b=some k→h' b=some k
section
variable {h h':a8}
theorem sI (L:Le h h') {v:V} {r:V×List Nat} (hs:dX h v=some r):dX h' v=some r:=by
 cases v with
 |sl b s n=>
  simp only [dX] at hs ⊢
  cases hb:h b with
  |none=>rw [hb] at hs;cases hs
  |some k=>rw [hb] at hs;rw [L b k hb];exact hs
 |_=>exact hs
theorem lV (L:Le h h'): ∀{vs:List V} {r:List V×List Nat},da h vs=some r→da h' vs=some r
 |[],r,hs=>hs
 |v::vs,r,hs=>by
  simp only [da] at hs ⊢
  cases h1:dX h v with
  |none=>rw [h1] at hs;cases hs
  |some p=>
   rw [h1] at hs
   rw [sI L h1]
   cases h2:da h vs with
   |none=>rw [h2] at hs;cases hs
   |some q=>rw [h2] at hs;rw [lV L h2];exact hs
theorem kj (L:Le h h') {e:Nat} {v:V} {r:List (List V)} (hs:aR h e v=some r):aR h' e v=some r:=by
 cases v with
 |sl b s n=>
  simp only [aR] at hs ⊢
  cases hb:h b with
  |none=>rw [hb] at hs;cases hs
  |some k=>rw [hb] at hs;rw [L b k hb];exact hs
 |lit y=>
  cases y with
  |slice a n c=>cases a<;>cases n<;>cases c<;>exact hs
  |_=>exact hs
 |_=>exact hs
theorem xv (L:Le h h') {g:Option Nat} {v r:V} (hs:hI g h v=some r):hI g h' v=some r:=by
 cases v with
 |ptr b i o n=>
  simp only [hI] at hs ⊢
  cases hb:h b with
  |none=>rw [hb] at hs;cases hs
  |some k=>rw [hb] at hs;rw [L b k hb];exact hs
 |_=>exact hs
theorem kx (L:Le h h') {ev:Opd→V}: ∀{ps:List (Nat×Opd)} {r:List (Nat×V)×List Nat},aS h ev ps=some r→aS h' ev ps=some r
 |[],r,hs=>hs
 | (i,x)::ps,r,hs=>by
   simp only [aS] at hs ⊢
   cases h1:da h (ev x).cells with
   |none=>rw [h1] at hs;cases hs
   |some p=>
    rw [h1] at hs
    rw [lV L h1]
    cases h2:aS h ev ps with
    |none=>rw [h2] at hs;cases hs
    |some q=>rw [h2] at hs;rw [kx L h2];exact hs
theorem mO (L:Le h h') {own:Bool} {ids:List Nat} {v:V} {r:V×List Nat×List Nat} (hs:aO h own ids v=some r):aO h' own ids v=some r:=by
 cases v with
 |ptr b i o n=>
  simp only [aO] at hs ⊢
  cases hb:h b with
  |none=>rw [hb] at hs;cases hs
  |some k=>rw [hb] at hs;rw [L b k hb];exact hs
 |sl b s n=>
  simp only [aO] at hs ⊢
  cases hb:h b with
  |none=>rw [hb] at hs;cases hs
  |some k=>rw [hb] at hs;rw [L b k hb];exact hs
 |fn f cs=>cases cs<;>exact hs
 |_=>exact hs
theorem ix (L:Le h h') {own:Bool}: ∀{vs:List V} {ids:List Nat} {r:List V×List Nat×List Nat},aY h own ids vs=some r→aY h' own ids vs=some r
 |[],ids,r,hs=>hs
 |v::vs,ids,r,hs=>by
  simp only [aY] at hs ⊢
  cases h1:aO h own ids v with
  |none=>rw [h1] at hs;cases hs
  |some p=>
   obtain ⟨a,b,c⟩:=p
   rw [h1] at hs
   rw [mO L h1]
   dsimp only at hs ⊢
   cases h2:aY h own b vs with
   |none=>rw [h2] at hs;cases hs
   |some q=>rw [h2] at hs;rw [ix L h2];exact hs
theorem oD (L:Le h h') {own:Bool} {ids:List Nat} {v:V} {r:V×List Nat×List Nat} (hs:be h own ids v=some r):be h' own ids v=some r:=by
 have other: ∀v,be h own ids v=aO h own ids v→be h' own ids v=aO h' own ids v→be h own ids v=some r→be h' own ids v=some r:=fun v e1 e2 e3=>by
  rw [e1] at e3;rw [e2];exact mO L e3
 cases v with
 |agg cs=>
  simp only [be] at hs ⊢
  cases h1:aY h own ids cs with
  |none=>rw [h1] at hs;cases hs
  |some p=>rw [h1] at hs;rw [ix L h1];exact hs
 |fn f cs=>
  simp only [be] at hs ⊢
  cases h1:aY h true ids cs with
  |none=>rw [h1] at hs;cases hs
  |some p=>rw [h1] at hs;rw [ix L h1];exact hs
 |lit v=>exact other _ rfl rfl hs
 |tup v=>exact other _ rfl rfl hs
 |ptr b i o n=>exact other _ rfl rfl hs
 |sl b s n=>exact other _ rfl rfl hs
 |imm e r=>exact other _ rfl rfl hs
 |iptr r o=>exact other _ rfl rfl hs
 |undef=>exact other _ rfl rfl hs
theorem mo (L:Le h h') {owns:List Nat}: ∀{vs:List V} {j:Nat} {ids:List Nat} {r:List V×List Nat×List Nat},bY h owns j ids vs=some r→bY h' owns j ids vs=some r
 |[],j,ids,r,hs=>hs
 |v::vs,j,ids,r,hs=>by
  simp only [bY] at hs ⊢
  cases h1:be h (j∈owns) ids v with
  |none=>rw [h1] at hs;cases hs
  |some p=>
   obtain ⟨a,b,c⟩:=p
   rw [h1] at hs
   rw [oD L h1]
   dsimp only at hs ⊢
   cases h2:bY h owns (j+1) b vs with
   |none=>rw [h2] at hs;cases hs
   |some q=>rw [h2] at hs;rw [mo L h2];exact hs
theorem rm (L:Le h h'): ∀{vs:List V} {ids:List Nat} {r:List V×List Nat},eG h ids vs=some r→eG h' ids vs=some r
 |[],ids,r,hs=>hs
 |v::vs,ids,r,hs=>by
  simp only [eG] at hs ⊢
  cases h1:be h true ids v with
  |none=>rw [h1] at hs;cases hs
  |some p=>
   obtain ⟨a,b,c⟩:=p
   rw [h1] at hs
   rw [oD L h1]
   dsimp only at hs ⊢
   cases h2:eG h b vs with
   |none=>rw [h2] at hs;cases hs
   |some q=>rw [h2] at hs;rw [rm L h2];exact hs
theorem nj (L:Le h h'): ∀{rs:List (List V)} {ids:List Nat} {r:List (List V)×List Nat},dw h ids rs=some r→dw h' ids rs=some r
 |[],ids,r,hs=>hs
 |v::vs,ids,r,hs=>by
  simp only [dw] at hs ⊢
  cases h1:eG h ids v with
  |none=>rw [h1] at hs;cases hs
  |some p=>
   obtain ⟨a,b⟩:=p
   rw [h1] at hs
   rw [rm L h1]
   dsimp only at hs ⊢
   cases h2:dw h b vs with
   |none=>rw [h2] at hs;cases hs
   |some q=>rw [h2] at hs;rw [nj L h2];exact hs
theorem jc (L:Le h h'): ∀{fuel pos:Nat} {ids:List Nat} {r:List Blk×List Nat},bi h fuel pos ids=some r→bi h' fuel pos ids=some r
 |0,pos,ids,r,hs=>by simp [bi] at hs
 |fuel+1,pos,ids,r,hs=>by
  simp only [bi] at hs ⊢
  cases hp:ids[pos]? with
  |none=>rw [hp] at hs;exact hs
  |some b=>
   rw [hp] at hs
   dsimp only at hs ⊢
   cases hb:h b with
   |none=>rw [hb] at hs;cases hs
   |some k=>
    rw [hb] at hs
    rw [L b k hb]
    dsimp only at hs ⊢
    split at hs
    ·rename_i ho
     rw [if_pos ho]
     cases h1:bi h fuel (pos+1) ids with
     |none=>rw [h1] at hs;cases hs
     |some p=>rw [h1] at hs;rw [jc L h1];exact hs
    ·rename_i ho
     rw [if_neg ho]
     cases h1:dw h ids k.rows with
     |none=>rw [h1] at hs;cases hs
     |some p=>
      obtain ⟨rows,ids1⟩:=p
      rw [h1] at hs
      rw [nj L h1]
      dsimp only at hs ⊢
      cases h2:bi h fuel (pos+1) ids1 with
      |none=>rw [h2] at hs;cases hs
      |some q=>rw [h2] at hs;rw [jc L h2];exact hs
theorem rL (L:Le h h') {owns:FuncId→List Nat} {f:FuncId} {args:List V} {r:List V×List Blk×List Nat×List Nat} (hs:b7 owns h f args=some r):b7 owns h' f args=some r:=by
 unfold b7 at hs ⊢
 cases h1:bY h (owns f) 0 [] args with
 |none=>rw [h1] at hs;cases hs
 |some p=>
  obtain ⟨a,ids0,bor⟩:=p
  rw [h1] at hs
  rw [mo L h1]
  dsimp only at hs ⊢
  cases h2:bi h 40 0 ids0 with
  |none=>rw [h2] at hs;cases hs
  |some q=>rw [h2] at hs;rw [jc L h2];exact hs
theorem ot: ∀(ids:List Nat) (M:List Blk),(de ids M).map (·.1)=ids.take M.length
 |[],M=>by simp [de]
 |i::r,[]=>by simp [de]
 |i::r,k::s=>by simp [de,ot r s]
theorem te (L:Le h h') {C:am} {owns:FuncId→List Nat} {new:Nat} {f:FuncId} {args:List V} {v:V} {u:Upd} (hs:di C owns h new f args=some (v,u)) (hn: ∀b∈u.map (·.1),h b=none→h' b=none):
 di C owns h' new f args=some (v,u):=by
 unfold di at hs ⊢
 cases h1:b7 owns h f args with
 |none=>rw [h1] at hs;cases hs
 |some p=>
  obtain ⟨args',blks,ids,bor⟩:=p
  rw [h1] at hs
  rw [rL L h1]
  dsimp only at hs ⊢
  cases h2:C f (fy (owns f) args') (fB (owns f) blks) with
  |none=>rw [h2] at hs;cases hs
  |some q=>
   obtain ⟨r,blks'⟩:=q
   rw [h2] at hs
   dsimp only at hs ⊢
   unfold iH at hs ⊢
   split at hs
   ·rename_i hc
    cases hs
    refine if_pos ⟨hc.1,List.all_eq_true.2 fun b hb=> ?_⟩
    have hb0:h b=none:=by simpa using List.all_eq_true.1 hc.2 b hb
    rw [hn b ?_ hb0]
    ·rfl
    ·rw [List.map_append,List.mem_append,ot,List.length_map]
     left
     rw [List.take_of_length_le (by rw [List.length_append];have:=ii (n:=new) hc.1;omega)]
     exact List.mem_append.2 (.inr hb)
   ·cases hs
theorem cq {n:Nat} {k:Blk} {v:V} {r:V×Upd} (hs:cQ h n k v=some r) (hn: ∀b∈r.2.map (·.1),h b=none→h' b=none):cQ h' n k v=some r:=by
 unfold cQ at hs ⊢
 split at hs
 ·rename_i hc
  cases hs
  rw [if_pos ⟨by rw [hn n (by simp) (by simpa using hc.1)];rfl,hc.2⟩]
 ·cases hs
theorem CB (L:Le h h') {C:am} {ow:FuncId→List Nat} {o:AOp} {ev:Opd→V} {new:Nat} {v:V} {u:Upd} (hs:a6 C ow o ev h new=some (v,u)) (hn: ∀b∈u.map (·.1),h b=none→h' b=none):
 a6 C ow o ev h' new=some (v,u):=by
 cases o with
 |alloc z=>
  simp only [a6] at hs ⊢
  split at hs
  ·rename_i hc;rw [if_pos hc];exact cq hs hn
  ·cases hs
 |box s x=>
  simp only [a6] at hs ⊢
  split at hs
  ·rename_i hc;rw [if_pos hc];exact cq hs hn
  ·cases hs
 |buildTwo x y=>
  simp only [a6] at hs ⊢
  split at hs
  ·rename_i hc;rw [if_pos hc];exact cq hs hn
  ·cases hs
 |buildSlice e z n ps=>
  simp only [a6] at hs ⊢
  cases h1:aS h ev ps with
  |none=>rw [h1] at hs;cases hs
  |some p=>
   obtain ⟨qs,bs⟩:=p
   rw [h1] at hs
   rw [kx L h1]
   dsimp only at hs ⊢
   split at hs
   ·rename_i rows hr
    split at hs
    ·rename_i hc
     rw [if_pos hc]
     cases hf:cQ h new ⟨e,false,rows⟩ (.sl new 0 n) with
     |none=>rw [hf] at hs;cases hs
     |some q=>
      rw [hf] at hs
      cases hs
      rw [cq hf (fun b hm h0=>hn b (by rw [List.map_append,List.mem_append];exact .inr hm) h0)]
    ·cases hs
   ·cases hs
 |load g a=>
  simp only [a6] at hs ⊢
  cases h1:hI g h (ev a) with
  |none=>rw [h1] at hs;cases hs
  |some p=>rw [h1] at hs;rw [xv L h1];exact hs
 |store s a x=>
  simp only [a6] at hs ⊢
  cases hev:ev a with
  |ptr b i o n=>
   rw [hev] at hs
   dsimp only at hs ⊢
   cases hb:h b with
   |none=>rw [hb] at hs;cases hs
   |some k=>
    rw [hb] at hs
    rw [L b k hb]
    dsimp only at hs ⊢
    split at hs
    ·rename_i hc
     rw [if_pos hc]
     split at hs
     ·rename_i row hr
      split at hs
      ·rename_i ho;rw [if_pos ho];exact hs
      ·rename_i ho
       rw [if_neg ho]
       cases h1:da h (ev x).cells with
       |none=>rw [h1] at hs;cases hs
       |some p=>rw [h1] at hs;rw [lV L h1];exact hs
     ·cases hs
    ·cases hs
  |_=>rw [hev] at hs;cases hs
 |nilCheck x=>
  simp only [a6] at hs ⊢
  cases hev:ev x with
  |ptr b i o n=>
   rw [hev] at hs
   dsimp only at hs ⊢
   cases hb:h b with
   |none=>rw [hb] at hs;cases hs
   |some k=>rw [hb] at hs;rw [L b k hb];exact hs
  |_=>rw [hev] at hs;exact hs
 |toBytes x=>
  simp only [a6] at hs ⊢
  split at hs
  ·rename_i s hev
   split at hs
   ·rename_i hc;exact (if_pos hc).trans (cq hs hn)
   ·cases hs
  ·cases hs
 |toStr x=>
  simp only [a6] at hs ⊢
  split at hs
  ·cases hs
  ·rename_i hc
   rw [if_neg hc]
   cases h1:aR h 1 (ev x) with
   |none=>rw [h1] at hs;cases hs
   |some p=>rw [h1] at hs;rw [kj L h1];exact hs
 |makeSlice e by_ z l c=>
  simp only [a6] at hs ⊢
  split at hs
  ·rename_i a b h1 h2
   split at hs
   ·rename_i hc;exact (if_pos hc).trans (cq hs hn)
   ·cases hs
  ·cases hs
 |slice e x lo hi mx=>
  cases mx with
  |some m=>exact hs
  |none=>
   simp only [a6] at hs ⊢
   cases hev:ev x with
   |sl b s n=>
    rw [hev] at hs
    dsimp only at hs ⊢
    cases hb:h b with
    |none=>rw [hb] at hs;cases hs
    |some k=>rw [hb] at hs;rw [L b k hb];exact hs
   |lit y=>
    rw [hev] at hs
    cases y with
    |slice a n c=>cases a<;>cases n<;>cases c<;>exact hs
    |_=>exact hs
   |_=>rw [hev] at hs;exact hs
 |idx e x i=>
  simp only [a6] at hs ⊢
  cases hi:asI (ev i) with
  |none=>rw [hi] at hs;cases hs
  |some q=>
   rw [hi] at hs
   dsimp only at hs ⊢
   split at hs
   ·rename_i hc
    rw [if_pos hc]
    cases hev:ev x with
    |sl b s n=>
     rw [hev] at hs
     dsimp only at hs ⊢
     cases hb:h b with
     |none=>rw [hb] at hs;cases hs
     |some k=>rw [hb] at hs;rw [L b k hb];exact hs
    |_=>rw [hev] at hs;exact hs
   ·cases hs
 |append e by_ z x y=>
  simp only [a6] at hs ⊢
  cases h1:aR h e (ev y) with
  |none=>rw [h1] at hs;cases hs
  |some ns=>
   rw [h1] at hs
   rw [kj L h1]
   dsimp only at hs ⊢
   split at hs
   ·rename_i hc
    rw [if_pos hc]
    split at hs
    ·rename_i b n hev
     cases hb:h b with
     |none=>rw [hb] at hs;cases hs
     |some k=>rw [hb] at hs;rw [L b k hb];exact hs
    ·exact cq hs hn
    ·exact cq hs hn
    ·cases hs
   ·cases hs
 |appendN e by_ z x y=>
  simp only [a6] at hs ⊢
  split at hs
  ·rename_i l hl
   split at hs
   ·rename_i hc
    rw [if_pos hc]
    unfold lT at hs ⊢
    split at hs
    ·rename_i hc
     rw [if_pos hc]
     split at hs
     ·rename_i b n hev
      cases hb:h b with
      |none=>rw [hb] at hs;cases hs
      |some k=>rw [hb] at hs;rw [L b k hb];exact hs
     ·exact cq hs hn
     ·exact cq hs hn
     ·cases hs
    ·cases hs
   ·cases hs
  ·cases hs
 |copy e x y=>
  simp only [a6] at hs ⊢
  cases h1:aR h e (ev y) with
  |none=>rw [h1] at hs;cases hs
  |some ns=>
   rw [h1] at hs
   rw [kj L h1]
   cases hev:ev x with
   |sl b s n=>
    rw [hev] at hs
    dsimp only at hs ⊢
    cases hb:h b with
    |none=>rw [hb] at hs;cases hs
    |some k=>rw [hb] at hs;rw [L b k hb];exact hs
   |_=>rw [hev] at hs;cases hs
 |arrOf n x=>
  simp only [a6] at hs ⊢
  cases h1:dX h (ev x) with
  |none=>rw [h1] at hs;cases hs
  |some p=>rw [h1] at hs;rw [sI L h1];exact hs
 |bytesOwn x=>
  simp only [a6] at hs ⊢
  cases hev:ev x with
  |sl b s n=>
   rw [hev] at hs
   dsimp only at hs ⊢
   cases hb:h b with
   |none=>rw [hb] at hs;cases hs
   |some k=>rw [hb] at hs;rw [L b k hb];exact hs
  |_=>rw [hev] at hs;cases hs
 |call f args=>exact te L hs hn
 |dyn f args=>
  simp only [a6] at hs ⊢
  split at hs
  ·rename_i hev;exact te L hs hn
  ·cases hs
 |_=>exact hs
end
end Go.AI
