/- An operation that is told with a part of memory is told alike with all of it. -/
import Derived.Test.YtdmhkkcihecndaaAiCall3
set_option linter.unusedVariables false
set_option linter.unusedSimpArgs false
namespace Go.AI
def Le (h h':ag):Prop:= ∀b k,h b=some k→h' b=some k
section
variable {h h':ag}
theorem za (L:Le h h') {v:V} {r:V×List Nat} (hs:g9 h v=some r):g9 h' v=some r:=by
 cases v with
 |sl b s n=>
  simp only [g9] at hs ⊢
  cases hb:h b with
  |none=>rw [hb] at hs;cases hs
  |some k=>rw [hb] at hs;rw [L b k hb];exact hs
 |_=>exact hs
theorem s4 (L:Le h h'): ∀{vs:List V} {r:List V×List Nat},eH h vs=some r→eH h' vs=some r
 |[],r,hs=>hs
 |v::vs,r,hs=>by
  simp only [eH] at hs ⊢
  cases h1:g9 h v with
  |none=>rw [h1] at hs;cases hs
  |some p=>
   rw [h1] at hs
   rw [za L h1]
   cases h2:eH h vs with
   |none=>rw [h2] at hs;cases hs
   |some q=>rw [h2] at hs;rw [s4 L h2];exact hs
theorem pE (L:Le h h') {e:Nat} {v:V} {r:List (List V)} (hs:bg h e v=some r):bg h' e v=some r:=by
 cases v with
 |sl b s n=>
  simp only [bg] at hs ⊢
  cases hb:h b with
  |none=>rw [hb] at hs;cases hs
  |some k=>rw [hb] at hs;rw [L b k hb];exact hs
 |lit y=>
  cases y with
  |slice a n c=>cases a<;>cases n<;>cases c<;>exact hs
  |_=>exact hs
 |_=>exact hs
theorem Fq (L:Le h h') {g:Option Nat} {v r:V} (hs:kV g h v=some r):kV g h' v=some r:=by
 cases v with
 |ptr b i o n=>
  simp only [kV] at hs ⊢
  cases hb:h b with
  |none=>rw [hb] at hs;cases hs
  |some k=>rw [hb] at hs;rw [L b k hb];exact hs
 |_=>exact hs
theorem oG (L:Le h h') {ev:Opd→V}: ∀{ps:List (Nat×Opd)} {r:List (Nat×V)×List Nat},bm h ev ps=some r→bm h' ev ps=some r
 |[],r,hs=>hs
 | (i,x)::ps,r,hs=>by
   simp only [bm] at hs ⊢
   cases h1:eH h (ev x).cells with
   |none=>rw [h1] at hs;cases hs
   |some p=>
    rw [h1] at hs
    rw [s4 L h1]
    cases h2:bm h ev ps with
    |none=>rw [h2] at hs;cases hs
    |some q=>rw [h2] at hs;rw [oG L h2];exact hs
theorem sB (L:Le h h') {own:Bool} {ids:List Nat} {v:V} {r:V×List Nat×List Nat} (hs:be h own ids v=some r):be h' own ids v=some r:=by
 cases v with
 |ptr b i o n=>
  simp only [be] at hs ⊢
  cases hb:h b with
  |none=>rw [hb] at hs;cases hs
  |some k=>rw [hb] at hs;rw [L b k hb];exact hs
 |sl b s n=>
  simp only [be] at hs ⊢
  cases hb:h b with
  |none=>rw [hb] at hs;cases hs
  |some k=>rw [hb] at hs;rw [L b k hb];exact hs
 |fn f cs=>cases cs<;>exact hs
 |_=>exact hs
theorem lH (L:Le h h') {own:Bool}: ∀{vs:List V} {ids:List Nat} {r:List V×List Nat×List Nat},bq h own ids vs=some r→bq h' own ids vs=some r
 |[],ids,r,hs=>hs
 |v::vs,ids,r,hs=>by
  simp only [bq] at hs ⊢
  cases h1:be h own ids v with
  |none=>rw [h1] at hs;cases hs
  |some p=>
   obtain ⟨a,b,c⟩:=p
   rw [h1] at hs
   rw [sB L h1]
   dsimp only at hs ⊢
   cases h2:bq h own b vs with
   |none=>rw [h2] at hs;cases hs
   |some q=>rw [h2] at hs;rw [lH L h2];exact hs
theorem uT (L:Le h h') {own:Bool} {ids:List Nat} {v:V} {r:V×List Nat×List Nat} (hs:bI h own ids v=some r):bI h' own ids v=some r:=by
 have other: ∀v,bI h own ids v=be h own ids v→bI h' own ids v=be h' own ids v→bI h own ids v=some r→bI h' own ids v=some r:=fun v e1 e2 e3=>by
  rw [e1] at e3;rw [e2];exact sB L e3
 cases v with
 |agg cs=>
  simp only [bI] at hs ⊢
  cases h1:bq h own ids cs with
  |none=>rw [h1] at hs;cases hs
  |some p=>rw [h1] at hs;rw [lH L h1];exact hs
 |fn f cs=>
  simp only [bI] at hs ⊢
  cases h1:bq h true ids cs with
  |none=>rw [h1] at hs;cases hs
  |some p=>rw [h1] at hs;rw [lH L h1];exact hs
 |lit v=>exact other _ rfl rfl hs
 |tup v=>exact other _ rfl rfl hs
 |ptr b i o n=>exact other _ rfl rfl hs
 |sl b s n=>exact other _ rfl rfl hs
 |imm e r=>exact other _ rfl rfl hs
 |iptr r o=>exact other _ rfl rfl hs
 |undef=>exact other _ rfl rfl hs
theorem te (L:Le h h') {owns:List Nat}: ∀{vs:List V} {j:Nat} {ids:List Nat} {r:List V×List Nat×List Nat},de h owns j ids vs=some r→de h' owns j ids vs=some r
 |[],j,ids,r,hs=>hs
 |v::vs,j,ids,r,hs=>by
  simp only [de] at hs ⊢
  cases h1:bI h (j∈owns) ids v with
  |none=>rw [h1] at hs;cases hs
  |some p=>
   obtain ⟨a,b,c⟩:=p
   rw [h1] at hs
   rw [uT L h1]
   dsimp only at hs ⊢
   cases h2:de h owns (j+1) b vs with
   |none=>rw [h2] at hs;cases hs
   |some q=>rw [h2] at hs;rw [te L h2];exact hs
theorem wG (L:Le h h'): ∀{vs:List V} {ids:List Nat} {r:List V×List Nat},gU h ids vs=some r→gU h' ids vs=some r
 |[],ids,r,hs=>hs
 |v::vs,ids,r,hs=>by
  simp only [gU] at hs ⊢
  cases h1:bI h true ids v with
  |none=>rw [h1] at hs;cases hs
  |some p=>
   obtain ⟨a,b,c⟩:=p
   rw [h1] at hs
   rw [uT L h1]
   dsimp only at hs ⊢
   cases h2:gU h b vs with
   |none=>rw [h2] at hs;cases hs
   |some q=>rw [h2] at hs;rw [wG L h2];exact hs
theorem ti (L:Le h h'): ∀{rs:List (List V)} {ids:List Nat} {r:List (List V)×List Nat},fg h ids rs=some r→fg h' ids rs=some r
 |[],ids,r,hs=>hs
 |v::vs,ids,r,hs=>by
  simp only [fg] at hs ⊢
  cases h1:gU h ids v with
  |none=>rw [h1] at hs;cases hs
  |some p=>
   obtain ⟨a,b⟩:=p
   rw [h1] at hs
   rw [wG L h1]
   dsimp only at hs ⊢
   cases h2:fg h b vs with
   |none=>rw [h2] at hs;cases hs
   |some q=>rw [h2] at hs;rw [ti L h2];exact hs
theorem nH (L:Le h h'): ∀{fuel pos:Nat} {ids:List Nat} {r:List Blk×List Nat},bM h fuel pos ids=some r→bM h' fuel pos ids=some r
 |0,pos,ids,r,hs=>by simp [bM] at hs
 |fuel+1,pos,ids,r,hs=>by
  simp only [bM] at hs ⊢
  cases hp:ids[pos]? with
  |none=>rw [hp] at hs;exact hs
  |some b=>
   rw [hp] at hs
   dsimp only at hs ⊢
   cases hb:h b with
   |none=>rw [hb] at hs;cases hs
   |some k=>
    rw [hb] at hs
    rw [L b k hb]
    dsimp only at hs ⊢
    split at hs
    ·rename_i ho
     rw [if_pos ho]
     cases h1:bM h fuel (pos+1) ids with
     |none=>rw [h1] at hs;cases hs
     |some p=>rw [h1] at hs;rw [nH L h1];exact hs
    ·rename_i ho
     rw [if_neg ho]
     cases h1:fg h ids k.rows with
     |none=>rw [h1] at hs;cases hs
     |some p=>
      obtain ⟨rows,ids1⟩:=p
      rw [h1] at hs
      rw [ti L h1]
      dsimp only at hs ⊢
      cases h2:bM h fuel (pos+1) ids1 with
      |none=>rw [h2] at hs;cases hs
      |some q=>rw [h2] at hs;rw [nH L h2];exact hs
theorem yy (L:Le h h') {owns:FuncId→List Nat} {f:FuncId} {args:List V} {r:List V×List Blk×List Nat×List Nat} (hs:bB owns h f args=some r):bB owns h' f args=some r:=by
 unfold bB at hs ⊢
 cases h1:de h (owns f) 0 [] args with
 |none=>rw [h1] at hs;cases hs
 |some p=>
  obtain ⟨a,ids0,bor⟩:=p
  rw [h1] at hs
  rw [te L h1]
  dsimp only at hs ⊢
  cases h2:bM h 40 0 ids0 with
  |none=>rw [h2] at hs;cases hs
  |some q=>rw [h2] at hs;rw [nH L h2];exact hs
theorem uE: ∀(ids:List Nat) (M:List Blk),(eY ids M).map (·.1)=ids.take M.length
 |[],M=>by simp [eY]
 |i::r,[]=>by simp [eY]
 |i::r,k::s=>by simp [eY,uE r s]
theorem zf (L:Le h h') {C:aA} {owns:FuncId→List Nat} {new:Nat} {f:FuncId} {args:List V} {v:V} {u:Upd} (hs:eR C owns h new f args=some (v,u)) (hn: ∀b∈u.map (·.1),h b=none→h' b=none):
 eR C owns h' new f args=some (v,u):=by
 unfold eR at hs ⊢
 cases h1:bB owns h f args with
 |none=>rw [h1] at hs;cases hs
 |some p=>
  obtain ⟨args',blks,ids,bor⟩:=p
  rw [h1] at hs
  rw [yy L h1]
  dsimp only at hs ⊢
  cases h2:C f (iO (owns f) args') (iQ (owns f) blks) with
  |none=>rw [h2] at hs;cases hs
  |some q=>
   obtain ⟨r,blks'⟩:=q
   rw [h2] at hs
   dsimp only at hs ⊢
   unfold mM at hs ⊢
   split at hs
   ·rename_i hc
    cases hs
    refine if_pos ⟨hc.1,List.all_eq_true.2 fun b hb=> ?_⟩
    have hb0:h b=none:=by simpa using List.all_eq_true.1 hc.2 b hb
    rw [hn b ?_ hb0]
    ·rfl
    ·rw [List.map_append,List.mem_append,uE,List.length_map]
     left
     rw [List.take_of_length_le (by rw [List.length_append];have:=lu (n:=new) hc.1;omega)]
     exact List.mem_append.2 (.inr hb)
   ·cases hs
theorem dy {n:Nat} {k:Blk} {v:V} {r:V×Upd} (hs:er h n k v=some r) (hn: ∀b∈r.2.map (·.1),h b=none→h' b=none):er h' n k v=some r:=by
 unfold er at hs ⊢
 split at hs
 ·rename_i hc
  cases hs
  rw [if_pos ⟨by rw [hn n (by simp) (by simpa using hc.1)];rfl,hc.2⟩]
 ·cases hs
theorem LR (L:Le h h') {C:aA} {ow:FuncId→List Nat} {o:AOp} {ev:Opd→V} {new:Nat} {v:V} {u:Upd} (hs:aa C ow o ev h new=some (v,u)) (hn: ∀b∈u.map (·.1),h b=none→h' b=none):
 aa C ow o ev h' new=some (v,u):=by
 cases o with
 |alloc z=>
  simp only [aa] at hs ⊢
  split at hs
  ·rename_i hc;rw [if_pos hc];exact dy hs hn
  ·cases hs
 |box s x=>
  simp only [aa] at hs ⊢
  split at hs
  ·rename_i hc;rw [if_pos hc];exact dy hs hn
  ·cases hs
 |buildTwo x y=>
  simp only [aa] at hs ⊢
  split at hs
  ·rename_i hc;rw [if_pos hc];exact dy hs hn
  ·cases hs
 |buildSlice e z n ps=>
  simp only [aa] at hs ⊢
  cases h1:bm h ev ps with
  |none=>rw [h1] at hs;cases hs
  |some p=>
   obtain ⟨qs,bs⟩:=p
   rw [h1] at hs
   rw [oG L h1]
   dsimp only at hs ⊢
   split at hs
   ·rename_i rows hr
    split at hs
    ·rename_i hc
     rw [if_pos hc]
     cases hf:er h new ⟨e,false,rows⟩ (.sl new 0 n) with
     |none=>rw [hf] at hs;cases hs
     |some q=>
      rw [hf] at hs
      cases hs
      rw [dy hf (fun b hm h0=>hn b (by rw [List.map_append,List.mem_append];exact .inr hm) h0)]
    ·cases hs
   ·cases hs
 |load g a=>
  simp only [aa] at hs ⊢
  cases h1:kV g h (ev a) with
  |none=>rw [h1] at hs;cases hs
  |some p=>rw [h1] at hs;rw [Fq L h1];exact hs
 |store s a x=>
  simp only [aa] at hs ⊢
  cases hev:ev a with
  |ptr b i o n=>
   rw [hev] at hs
   dsimp only at hs ⊢
   cases hb:h b with
   |none=>rw [hb] at hs;cases hs
   |some k=>
    rw [hb] at hs
    rw [L b k hb]
    dsimp only at hs ⊢
    split at hs
    ·rename_i hc
     rw [if_pos hc]
     split at hs
     ·rename_i row hr
      split at hs
      ·rename_i ho;rw [if_pos ho];exact hs
      ·rename_i ho
       rw [if_neg ho]
       cases h1:eH h (ev x).cells with
       |none=>rw [h1] at hs;cases hs
       |some p=>rw [h1] at hs;rw [s4 L h1];exact hs
     ·cases hs
    ·cases hs
  |_=>rw [hev] at hs;cases hs
 |nilCheck x=>
  simp only [aa] at hs ⊢
  cases hev:ev x with
  |ptr b i o n=>
   rw [hev] at hs
   dsimp only at hs ⊢
   cases hb:h b with
   |none=>rw [hb] at hs;cases hs
   |some k=>rw [hb] at hs;rw [L b k hb];exact hs
  |_=>rw [hev] at hs;exact hs
 |toBytes x=>
  simp only [aa] at hs ⊢
  split at hs
  ·rename_i s hev
   split at hs
   ·rename_i hc;exact (if_pos hc).trans (dy hs hn)
   ·cases hs
  ·cases hs
 |toStr x=>
  simp only [aa] at hs ⊢
  split at hs
  ·cases hs
  ·rename_i hc
   rw [if_neg hc]
   cases h1:bg h 1 (ev x) with
   |none=>rw [h1] at hs;cases hs
   |some p=>rw [h1] at hs;rw [pE L h1];exact hs
 |makeSlice e by_ z l c=>
  simp only [aa] at hs ⊢
  split at hs
  ·rename_i a b h1 h2
   split at hs
   ·rename_i hc;exact (if_pos hc).trans (dy hs hn)
   ·cases hs
  ·cases hs
 |slice e x lo hi mx=>
  cases mx with
  |some m=>exact hs
  |none=>
   simp only [aa] at hs ⊢
   cases hev:ev x with
   |sl b s n=>
    rw [hev] at hs
    dsimp only at hs ⊢
    cases hb:h b with
    |none=>rw [hb] at hs;cases hs
    |some k=>rw [hb] at hs;rw [L b k hb];exact hs
   |lit y=>
    rw [hev] at hs
    cases y with
    |slice a n c=>cases a<;>cases n<;>cases c<;>exact hs
    |_=>exact hs
   |_=>rw [hev] at hs;exact hs
 |idx e x i=>
  simp only [aa] at hs ⊢
  cases hi:asI (ev i) with
  |none=>rw [hi] at hs;cases hs
  |some q=>
   rw [hi] at hs
   dsimp only at hs ⊢
   split at hs
   ·rename_i hc
    rw [if_pos hc]
    cases hev:ev x with
    |sl b s n=>
     rw [hev] at hs
     dsimp only at hs ⊢
     cases hb:h b with
     |none=>rw [hb] at hs;cases hs
     |some k=>rw [hb] at hs;rw [L b k hb];exact hs
    |_=>rw [hev] at hs;exact hs
   ·cases hs
 |append e by_ z x y=>
  simp only [aa] at hs ⊢
  cases h1:bg h e (ev y) with
  |none=>rw [h1] at hs;cases hs
  |some ns=>
   rw [h1] at hs
   rw [pE L h1]
   dsimp only at hs ⊢
   split at hs
   ·rename_i hc
    rw [if_pos hc]
    split at hs
    ·rename_i b n hev
     cases hb:h b with
     |none=>rw [hb] at hs;cases hs
     |some k=>rw [hb] at hs;rw [L b k hb];exact hs
    ·exact dy hs hn
    ·exact dy hs hn
    ·cases hs
   ·cases hs
 |appendN e by_ z x y=>
  simp only [aa] at hs ⊢
  split at hs
  ·rename_i l hl
   split at hs
   ·rename_i hc
    rw [if_pos hc]
    unfold rS at hs ⊢
    split at hs
    ·rename_i hc
     rw [if_pos hc]
     split at hs
     ·rename_i b n hev
      cases hb:h b with
      |none=>rw [hb] at hs;cases hs
      |some k=>rw [hb] at hs;rw [L b k hb];exact hs
     ·exact dy hs hn
     ·exact dy hs hn
     ·cases hs
    ·cases hs
   ·cases hs
  ·cases hs
 |copy e x y=>
  simp only [aa] at hs ⊢
  cases h1:bg h e (ev y) with
  |none=>rw [h1] at hs;cases hs
  |some ns=>
   rw [h1] at hs
   rw [pE L h1]
   cases hev:ev x with
   |sl b s n=>
    rw [hev] at hs
    dsimp only at hs ⊢
    cases hb:h b with
    |none=>rw [hb] at hs;cases hs
    |some k=>rw [hb] at hs;rw [L b k hb];exact hs
   |_=>rw [hev] at hs;cases hs
 |arrOf n x=>
  simp only [aa] at hs ⊢
  cases h1:g9 h (ev x) with
  |none=>rw [h1] at hs;cases hs
  |some p=>rw [h1] at hs;rw [za L h1];exact hs
 |bytesOwn x=>
  simp only [aa] at hs ⊢
  cases hev:ev x with
  |sl b s n=>
   rw [hev] at hs
   dsimp only at hs ⊢
   cases hb:h b with
   |none=>rw [hb] at hs;cases hs
   |some k=>rw [hb] at hs;rw [L b k hb];exact hs
  |_=>rw [hev] at hs;cases hs
 |call f args=>exact zf L hs hn
 |dyn f args=>
  simp only [aa] at hs ⊢
  split at hs
  ·rename_i hev;exact zf L hs hn
  ·cases hs
 |_=>exact hs
end
end Go.AI
