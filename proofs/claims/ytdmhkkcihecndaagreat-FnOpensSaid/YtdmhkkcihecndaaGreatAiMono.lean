/- An operation that is told with a part of memory is told alike with all of it. -/
import Derived.Test.YtdmhkkcihecndaaGreatAiReg
set_option linter.unusedVariables false
set_option linter.unusedSimpArgs false
namespace Go.AI
def Le (h h':au):Prop:= ∀b k,h b=some k→h' b=some k
section
variable {h h':au}
theorem Ot (L:Le h h') {v:V} {r:V×List Nat} (hs:pL h v=some r):pL h' v=some r:=by
 cases v with
 |sl b s n=>
  simp only [pL] at hs ⊢
  cases hb:h b with
  |none=>rw [hb] at hs;cases hs
  |some k=>rw [hb] at hs;rw [L b k hb];exact hs
 |_=>exact hs
theorem D2 (L:Le h h'): ∀{vs:List V} {r:List V×List Nat},jA h vs=some r→jA h' vs=some r
 |[],r,hs=>hs
 |v::vs,r,hs=>by
  simp only [jA] at hs ⊢
  cases h1:pL h v with
  |none=>rw [h1] at hs;cases hs
  |some p=>
   rw [h1] at hs
   rw [Ot L h1]
   cases h2:jA h vs with
   |none=>rw [h2] at hs;cases hs
   |some q=>rw [h2] at hs;rw [D2 L h2];exact hs
theorem zR (L:Le h h') {e:Nat} {v:V} {r:List (List V)} (hs:cv h e v=some r):cv h' e v=some r:=by
 cases v with
 |sl b s n=>
  simp only [cv] at hs ⊢
  cases hb:h b with
  |none=>rw [hb] at hs;cases hs
  |some k=>rw [hb] at hs;rw [L b k hb];exact hs
 |lit y=>
  cases y with
  |slice a n c=>cases a<;>cases n<;>cases c<;>exact hs
  |_=>exact hs
 |_=>exact hs
theorem UE (L:Le h h') {g:Option Nat} {v r:V} (hs:z7 g h v=some r):z7 g h' v=some r:=by
 cases v with
 |ptr b i o n=>
  simp only [z7] at hs ⊢
  cases hb:h b with
  |none=>rw [hb] at hs;cases hs
  |some k=>rw [hb] at hs;rw [L b k hb];exact hs
 |_=>exact hs
theorem zU (L:Le h h') {ev:Opd→V}: ∀{ps:List (Nat×Opd)} {r:List (Nat×V)×List Nat},cD h ev ps=some r→cD h' ev ps=some r
 |[],r,hs=>hs
 | (i,x)::ps,r,hs=>by
   simp only [cD] at hs ⊢
   cases h1:jA h (ev x).cells with
   |none=>rw [h1] at hs;cases hs
   |some p=>
    rw [h1] at hs
    rw [D2 L h1]
    cases h2:cD h ev ps with
    |none=>rw [h2] at hs;cases hs
    |some q=>rw [h2] at hs;rw [zU L h2];exact hs
theorem EY (L:Le h h') {own:Bool} {ids:List Nat} {v:V} {r:V×List Nat×List Nat} (hs:cN h own ids v=some r):cN h' own ids v=some r:=by
 cases v with
 |ptr b i o n=>
  simp only [cN] at hs ⊢
  cases hb:h b with
  |none=>rw [hb] at hs;cases hs
  |some k=>rw [hb] at hs;rw [L b k hb];exact hs
 |sl b s n=>
  simp only [cN] at hs ⊢
  cases hb:h b with
  |none=>rw [hb] at hs;cases hs
  |some k=>rw [hb] at hs;rw [L b k hb];exact hs
 |fn f cs=>cases cs<;>exact hs
 |_=>exact hs
theorem uw (L:Le h h') {own:Bool}: ∀{vs:List V} {ids:List Nat} {r:List V×List Nat×List Nat},cF h own ids vs=some r→cF h' own ids vs=some r
 |[],ids,r,hs=>hs
 |v::vs,ids,r,hs=>by
  simp only [cF] at hs ⊢
  cases h1:cN h own ids v with
  |none=>rw [h1] at hs;cases hs
  |some p=>
   obtain ⟨a,b,c⟩:=p
   rw [h1] at hs
   rw [EY L h1]
   dsimp only at hs ⊢
   cases h2:cF h own b vs with
   |none=>rw [h2] at hs;cases hs
   |some q=>rw [h2] at hs;rw [uw L h2];exact hs
theorem In (L:Le h h') {own:Bool} {ids:List Nat} {v:V} {r:V×List Nat×List Nat} (hs:dB h own ids v=some r):dB h' own ids v=some r:=by
 have other: ∀v,dB h own ids v=cN h own ids v→dB h' own ids v=cN h' own ids v→dB h own ids v=some r→dB h' own ids v=some r:=fun v e1 e2 e3=>by
  rw [e1] at e3;rw [e2];exact EY L e3
 cases v with
 |agg cs=>
  simp only [dB] at hs ⊢
  cases h1:cF h own ids cs with
  |none=>rw [h1] at hs;cases hs
  |some p=>rw [h1] at hs;rw [uw L h1];exact hs
 |fn f cs=>
  simp only [dB] at hs ⊢
  cases h1:cF h true ids cs with
  |none=>rw [h1] at hs;cases hs
  |some p=>rw [h1] at hs;rw [uw L h1];exact hs
 |lit v=>exact other _ rfl rfl hs
 |tup v=>exact other _ rfl rfl hs
 |ptr b i o n=>exact other _ rfl rfl hs
 |sl b s n=>exact other _ rfl rfl hs
 |imm e r=>exact other _ rfl rfl hs
 |iptr r o=>exact other _ rfl rfl hs
 |undef=>exact other _ rfl rfl hs
theorem Es (L:Le h h') {owns:List Nat}: ∀{vs:List V} {j:Nat} {ids:List Nat} {r:List V×List Nat×List Nat},gw h owns j ids vs=some r→gw h' owns j ids vs=some r
 |[],j,ids,r,hs=>hs
 |v::vs,j,ids,r,hs=>by
  simp only [gw] at hs ⊢
  cases h1:dB h (j∈owns) ids v with
  |none=>rw [h1] at hs;cases hs
  |some p=>
   obtain ⟨a,b,c⟩:=p
   rw [h1] at hs
   rw [In L h1]
   dsimp only at hs ⊢
   cases h2:gw h owns (j+1) b vs with
   |none=>rw [h2] at hs;cases hs
   |some q=>rw [h2] at hs;rw [Es L h2];exact hs
theorem JN (L:Le h h'): ∀{vs:List V} {ids:List Nat} {r:List V×List Nat},mL h ids vs=some r→mL h' ids vs=some r
 |[],ids,r,hs=>hs
 |v::vs,ids,r,hs=>by
  simp only [mL] at hs ⊢
  cases h1:dB h true ids v with
  |none=>rw [h1] at hs;cases hs
  |some p=>
   obtain ⟨a,b,c⟩:=p
   rw [h1] at hs
   rw [In L h1]
   dsimp only at hs ⊢
   cases h2:mL h b vs with
   |none=>rw [h2] at hs;cases hs
   |some q=>rw [h2] at hs;rw [JN L h2];exact hs
theorem Eh (L:Le h h'): ∀{rs:List (List V)} {ids:List Nat} {r:List (List V)×List Nat},jU h ids rs=some r→jU h' ids rs=some r
 |[],ids,r,hs=>hs
 |v::vs,ids,r,hs=>by
  simp only [jU] at hs ⊢
  cases h1:mL h ids v with
  |none=>rw [h1] at hs;cases hs
  |some p=>
   obtain ⟨a,b⟩:=p
   rw [h1] at hs
   rw [JN L h1]
   dsimp only at hs ⊢
   cases h2:jU h b vs with
   |none=>rw [h2] at hs;cases hs
   |some q=>rw [h2] at hs;rw [Eh L h2];exact hs
theorem xg (L:Le h h'): ∀{fuel pos:Nat} {ids:List Nat} {r:List Blk×List Nat},dD h fuel pos ids=some r→dD h' fuel pos ids=some r
 |0,pos,ids,r,hs=>by simp [dD] at hs
 |fuel+1,pos,ids,r,hs=>by
  simp only [dD] at hs ⊢
  cases hp:ids[pos]? with
  |none=>rw [hp] at hs;exact hs
  |some b=>
   rw [hp] at hs
   dsimp only at hs ⊢
   cases hb:h b with
   |none=>rw [hb] at hs;cases hs
   |some k=>
    rw [hb] at hs
    rw [L b k hb]
    dsimp only at hs ⊢
    split at hs
    ·rename_i ho
     rw [if_pos ho]
     cases h1:dD h fuel (pos+1) ids with
     |none=>rw [h1] at hs;cases hs
     |some p=>rw [h1] at hs;rw [xg L h1];exact hs
    ·rename_i ho
     rw [if_neg ho]
     cases h1:jU h ids k.rows with
     |none=>rw [h1] at hs;cases hs
     |some p=>
      obtain ⟨rows,ids1⟩:=p
      rw [h1] at hs
      rw [Eh L h1]
      dsimp only at hs ⊢
      cases h2:dD h fuel (pos+1) ids1 with
      |none=>rw [h2] at hs;cases hs
      |some q=>rw [h2] at hs;rw [xg L h2];exact hs
theorem NO (L:Le h h') {owns:FuncId→List Nat} {f:FuncId} {args:List V} {r:List V×List Blk×List Nat×List Nat} (hs:cV owns h f args=some r):cV owns h' f args=some r:=by
 unfold cV at hs ⊢
 cases h1:gw h (owns f) 0 [] args with
 |none=>rw [h1] at hs;cases hs
 |some p=>
  obtain ⟨a,ids0,bor⟩:=p
  rw [h1] at hs
  rw [Es L h1]
  dsimp only at hs ⊢
  cases h2:dD h 40 0 ids0 with
  |none=>rw [h2] at hs;cases hs
  |some q=>rw [h2] at hs;rw [xg L h2];exact hs
theorem HT: ∀(ids:List Nat) (M:List Blk),(mr ids M).map (·.1)=ids.take M.length
 |[],M=>by simp [mr]
 |i::r,[]=>by simp [mr]
 |i::r,k::s=>by simp [mr,HT r s]
theorem Oh (L:Le h h') {C:aY} {owns:FuncId→List Nat} {new:Nat} {f:FuncId} {args:List V} {v:V} {u:Upd} (hs:jx C owns h new f args=some (v,u)) (hn: ∀b∈u.map (·.1),h b=none→h' b=none):
 jx C owns h' new f args=some (v,u):=by
 unfold jx at hs ⊢
 cases h1:cV owns h f args with
 |none=>rw [h1] at hs;cases hs
 |some p=>
  obtain ⟨args',blks,ids,bor⟩:=p
  rw [h1] at hs
  rw [NO L h1]
  dsimp only at hs ⊢
  cases h2:C f (qj (owns f) args') (pN (owns f) blks) with
  |none=>rw [h2] at hs;cases hs
  |some q=>
   obtain ⟨r,blks'⟩:=q
   rw [h2] at hs
   dsimp only at hs ⊢
   unfold vC at hs ⊢
   split at hs
   ·rename_i hc
    cases hs
    refine if_pos ⟨hc.1,List.all_eq_true.2 fun b hb=> ?_⟩
    have hb0:h b=none:=by simpa using List.all_eq_true.1 hc.2 b hb
    rw [hn b ?_ hb0]
    ·rfl
    ·rw [List.map_append,List.mem_append,HT,List.length_map]
     left
     rw [List.take_of_length_le (by rw [List.length_append];have:=tm (n:=new) hc.1;omega)]
     exact List.mem_append.2 (.inr hb)
   ·cases hs
theorem i6 {n:Nat} {k:Blk} {v:V} {r:V×Upd} (hs:jf h n k v=some r) (hn: ∀b∈r.2.map (·.1),h b=none→h' b=none):jf h' n k v=some r:=by
 unfold jf at hs ⊢
 split at hs
 ·rename_i hc
  cases hs
  rw [if_pos ⟨by rw [hn n (by simp) (by simpa using hc.1)];rfl,hc.2⟩]
 ·cases hs
theorem a1o (L:Le h h') {C:aY} {ow:FuncId→List Nat} {o:AOp} {ev:Opd→V} {new:Nat} {v:V} {u:Upd} (hs:an C ow o ev h new=some (v,u)) (hn: ∀b∈u.map (·.1),h b=none→h' b=none):
 an C ow o ev h' new=some (v,u):=by
 cases o with
 |alloc z=>
  simp only [an] at hs ⊢
  split at hs
  ·rename_i hc;rw [if_pos hc];exact i6 hs hn
  ·cases hs
 |box s x=>
  simp only [an] at hs ⊢
  split at hs
  ·rename_i hc;rw [if_pos hc];exact i6 hs hn
  ·cases hs
 |buildSlice e z n ps=>
  simp only [an] at hs ⊢
  cases h1:cD h ev ps with
  |none=>rw [h1] at hs;cases hs
  |some p=>
   obtain ⟨qs,bs⟩:=p
   rw [h1] at hs
   rw [zU L h1]
   dsimp only at hs ⊢
   split at hs
   ·rename_i rows hr
    split at hs
    ·rename_i hc
     rw [if_pos hc]
     cases hf:jf h new ⟨e,false,rows⟩ (.sl new 0 n) with
     |none=>rw [hf] at hs;cases hs
     |some q=>
      rw [hf] at hs
      cases hs
      rw [i6 hf (fun b hm h0=>hn b (by rw [List.map_append,List.mem_append];exact .inr hm) h0)]
    ·cases hs
   ·cases hs
 |load g a=>
  simp only [an] at hs ⊢
  cases h1:z7 g h (ev a) with
  |none=>rw [h1] at hs;cases hs
  |some p=>rw [h1] at hs;rw [UE L h1];exact hs
 |store s a x=>
  simp only [an] at hs ⊢
  cases hev:ev a with
  |ptr b i o n=>
   rw [hev] at hs
   dsimp only at hs ⊢
   cases hb:h b with
   |none=>rw [hb] at hs;cases hs
   |some k=>
    rw [hb] at hs
    rw [L b k hb]
    dsimp only at hs ⊢
    split at hs
    ·rename_i hc
     rw [if_pos hc]
     split at hs
     ·rename_i row hr
      split at hs
      ·rename_i ho;rw [if_pos ho];exact hs
      ·rename_i ho
       rw [if_neg ho]
       cases h1:jA h (ev x).cells with
       |none=>rw [h1] at hs;cases hs
       |some p=>rw [h1] at hs;rw [D2 L h1];exact hs
     ·cases hs
    ·cases hs
  |_=>rw [hev] at hs;cases hs
 |nilCheck x=>
  simp only [an] at hs ⊢
  cases hev:ev x with
  |ptr b i o n=>
   rw [hev] at hs
   dsimp only at hs ⊢
   cases hb:h b with
   |none=>rw [hb] at hs;cases hs
   |some k=>rw [hb] at hs;rw [L b k hb];exact hs
  |_=>rw [hev] at hs;exact hs
 |toBytes x=>
  simp only [an] at hs ⊢
  split at hs
  ·rename_i s hev
   split at hs
   ·rename_i hc;exact (if_pos hc).trans (i6 hs hn)
   ·cases hs
  ·cases hs
 |toStr x=>
  simp only [an] at hs ⊢
  split at hs
  ·cases hs
  ·rename_i hc
   rw [if_neg hc]
   cases h1:cv h 1 (ev x) with
   |none=>rw [h1] at hs;cases hs
   |some p=>rw [h1] at hs;rw [zR L h1];exact hs
 |makeSlice e by_ z l c=>
  simp only [an] at hs ⊢
  split at hs
  ·rename_i a b h1 h2
   split at hs
   ·rename_i hc;exact (if_pos hc).trans (i6 hs hn)
   ·cases hs
  ·cases hs
 |slice e x lo hi mx=>
  cases mx with
  |some m=>exact hs
  |none=>
   simp only [an] at hs ⊢
   cases hev:ev x with
   |sl b s n=>
    rw [hev] at hs
    dsimp only at hs ⊢
    cases hb:h b with
    |none=>rw [hb] at hs;cases hs
    |some k=>rw [hb] at hs;rw [L b k hb];exact hs
   |lit y=>
    rw [hev] at hs
    cases y with
    |slice a n c=>cases a<;>cases n<;>cases c<;>exact hs
    |_=>exact hs
   |_=>rw [hev] at hs;exact hs
 |idx e x i=>
  simp only [an] at hs ⊢
  cases hi:asI (ev i) with
  |none=>rw [hi] at hs;cases hs
  |some q=>
   rw [hi] at hs
   dsimp only at hs ⊢
   split at hs
   ·rename_i hc
    rw [if_pos hc]
    cases hev:ev x with
    |sl b s n=>
     rw [hev] at hs
     dsimp only at hs ⊢
     cases hb:h b with
     |none=>rw [hb] at hs;cases hs
     |some k=>rw [hb] at hs;rw [L b k hb];exact hs
    |_=>rw [hev] at hs;exact hs
   ·cases hs
 |append e by_ z x y=>
  simp only [an] at hs ⊢
  cases h1:cv h e (ev y) with
  |none=>rw [h1] at hs;cases hs
  |some ns=>
   rw [h1] at hs
   rw [zR L h1]
   dsimp only at hs ⊢
   split at hs
   ·rename_i hc
    rw [if_pos hc]
    split at hs
    ·rename_i b n hev
     cases hb:h b with
     |none=>rw [hb] at hs;cases hs
     |some k=>rw [hb] at hs;rw [L b k hb];exact hs
    ·exact i6 hs hn
    ·exact i6 hs hn
    ·cases hs
   ·cases hs
 |appendN e by_ z x y=>
  simp only [an] at hs ⊢
  split at hs
  ·rename_i l hl
   split at hs
   ·rename_i hc
    rw [if_pos hc]
    unfold Cw at hs ⊢
    split at hs
    ·rename_i hc
     rw [if_pos hc]
     split at hs
     ·rename_i b n hev
      cases hb:h b with
      |none=>rw [hb] at hs;cases hs
      |some k=>rw [hb] at hs;rw [L b k hb];exact hs
     ·exact i6 hs hn
     ·exact i6 hs hn
     ·cases hs
    ·cases hs
   ·cases hs
  ·cases hs
 |copy e x y=>
  simp only [an] at hs ⊢
  cases h1:cv h e (ev y) with
  |none=>rw [h1] at hs;cases hs
  |some ns=>
   rw [h1] at hs
   rw [zR L h1]
   cases hev:ev x with
   |sl b s n=>
    rw [hev] at hs
    dsimp only at hs ⊢
    cases hb:h b with
    |none=>rw [hb] at hs;cases hs
    |some k=>rw [hb] at hs;rw [L b k hb];exact hs
   |_=>rw [hev] at hs;cases hs
 |arrOf n x=>
  simp only [an] at hs ⊢
  cases h1:pL h (ev x) with
  |none=>rw [h1] at hs;cases hs
  |some p=>rw [h1] at hs;rw [Ot L h1];exact hs
 |bytesOwn x=>
  simp only [an] at hs ⊢
  cases hev:ev x with
  |sl b s n=>
   rw [hev] at hs
   dsimp only at hs ⊢
   cases hb:h b with
   |none=>rw [hb] at hs;cases hs
   |some k=>rw [hb] at hs;rw [L b k hb];exact hs
  |_=>rw [hev] at hs;cases hs
 |call f args=>exact Oh L hs hn
 |dyn f args=>
  simp only [an] at hs ⊢
  split at hs
  ·rename_i hev;exact Oh L hs hn
  ·cases hs
 |_=>exact hs
end
end Go.AI
