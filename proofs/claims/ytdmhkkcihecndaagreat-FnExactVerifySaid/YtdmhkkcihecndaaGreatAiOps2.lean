/- The operations of the abstract machine and the model's. Second part: stores, aggregates, slices that are laid. -/
import Derived.Test.YtdmhkkcihecndaaGreatAiOps
set_option linter.unusedVariables false
set_option linter.unusedSimpArgs false
namespace Go.AI
section
variable {P:Program} {μ:Mu} {h:ak} {w:World} {f:Nat→V} {a:Act}
theorem bu {α:Type} {l:List α} {i:Nat} {x:α} (h:l[i]? =some x):i<l.length:=by
 rcases Nat.lt_or_ge i l.length with hlt|hge
 ·exact hlt
 ·rw [List.getElem?_eq_none hge] at h;cases h
theorem pC {α:Type} (l cs:List α) (o:Nat) (h:o+cs.length≤l.length) (j:Nat):
 (l.take o++(cs++l.drop (o+cs.length)))[j]? =if o≤j∧j<o+cs.length then cs[j-o]? else l[j]? :=by
 by_cases h1:j<o
 ·rw [if_neg (by omega),List.getElem?_append_left (by simp;omega),List.getElem?_take,if_pos h1]
 ·rw [List.getElem?_append_right (by simp;omega)]
  have ht:(l.take o).length=o:=by simp;omega
  rw [ht]
  by_cases h2:j<o+cs.length
  ·rw [if_pos ⟨by omega,h2⟩,List.getElem?_append_left (by omega)]
  ·rw [if_neg (by omega),List.getElem?_append_right (by omega),List.getElem?_drop]
   congr 1
   omega
theorem AS {α:Type} (l cs:List α) (o:Nat) (h:o+cs.length≤l.length):(l.take o++(cs++l.drop (o+cs.length))).length=l.length:=by
 simp;omega
theorem Zr [Frame] (H:aE μ h w) {b i o:Nat} {k:Blk} {row cs:List V} {xs:List Value} {c:Nat} (hb:h b=some k) (hi:k.rows[i]? =some row) (hm:μ b=some c)
 (hlen:xs.length=cs.length) (ho:o+cs.length≤row.length) (hrel: ∀j v,cs[j]? =some v→aj μ h w v (xs.getD j undef)) (hcell: ∀v∈cs,v.cell=true∧(k.op=false→v.cl=true)):
 ∃w' μ',(storeCells ⟨c,i*k.esz+o,none⟩ xs).run P w= .ok () w'∧
  aE μ' (bj h b { k with rows:=k.rows.set i (row.take o++(cs++row.drop (o+cs.length))) }) w'∧
  Chg μ h w μ' (bj h b { k with rows:=k.rows.set i (row.take o++(cs++row.drop (o+cs.length))) }) w':=by
 have hmem:=List.mem_of_getElem? hi
 have hrw:=H.rows b k hb
 have hil:=bu hi
 rcases H.blk b k hb with ⟨h1,_,_⟩|⟨h0,c',arr,t,lo,hi',hm',hh,hf,hl,hv⟩
 ·rw [h1] at hmem;cases hmem
 ·rw [hm] at hm';cases hm'
  have hrl:=(hrw row hmem).1
  have hle:(i+1)*k.esz≤k.rows.length*k.esz:=Nat.mul_le_mul_right _ hil
  rw [Nat.add_mul,Nat.one_mul] at hle
  have hone: ∀x∈xs,aN x=true:=by
   intro x hx
   obtain ⟨j,hj,rfl⟩:=List.getElem_of_mem hx
   have hjc:j<cs.length:=by omega
   have h2:=hrel j cs[j] (List.getElem?_eq_getElem hjc)
   have h3:=h2.oneCell (hcell _ (List.getElem_mem hjc)).1
   simpa [List.getD_eq_getElem?_getD,List.getElem?_eq_getElem hj] using h3
  obtain ⟨arr',hrun,hsz,hval⟩:=gW (P:=P) (o:=i*k.esz+o) xs 0 arr w hh hf.at (by omega) hone
  have hlt:=j0 hh
  have hput:=H.put (w':=dF w c arr' t (lo,hi')) (c:=c) (k':={ k with rows:=k.rows.set i (row.take o++(cs++row.drop (o+cs.length))) }) hb h0 (.inl hm)
   rfl rfl rfl (by rw [oC];exact Nat.le_refl _) (fun c' _ hne=>wv hne) (ll hlt) (by rw [hsz];exact hf) rfl (by simpa [hsz] using hl)
   (fun row' hrow'=>by
    rcases List.mem_or_eq_of_mem_set hrow' with h2|h2
    ·exact hrw row' h2
    ·subst h2
     refine ⟨by rw [AS _ _ _ ho];exact hrl,fun v hv=> ?_⟩
     rcases List.mem_append.1 hv with h3|h3
     ·exact (hrw row hmem).2 v (List.mem_of_mem_take h3)
     ·rcases List.mem_append.1 h3 with h4|h4
      ·exact hcell v h4
      ·exact (hrw row hmem).2 v (List.mem_of_mem_drop h4))
   (.inr ⟨by simp,hm,by unfold bsize;rw [hh];exact hsz⟩)
   (fun i2 row2 j v h2 h3=>by
    simp only at h2 ⊢
    have hval':=hval (i2*k.esz+j)
    simp only [Nat.add_zero] at hval'
    rw [hval']
    rw [List.getElem?_set] at h2
    by_cases e:i=i2
    ·subst e
     rw [if_pos rfl,if_pos hil] at h2
     cases h2
     rw [pC _ _ _ ho] at h3
     by_cases hin:o≤j∧j<o+cs.length
     ·rw [if_pos hin] at h3
      rw [if_pos (by omega)]
      have:=hrel (j-o) v h3
      rwa [show i*k.esz+j-(i*k.esz+o)=j-o by omega]
     ·rw [if_neg hin] at h3
      rw [if_neg (by omega)]
      exact hv i row j v hi h3
    ·rw [if_neg e] at h2
     have hjl:j<k.esz:=by have:=bu h3;have:=(hrw row2 (List.mem_of_getElem? h2)).1;omega
     have hni: ¬(i*k.esz+o≤i2*k.esz+j∧i2*k.esz+j<i*k.esz+o+xs.length):=by
      intro hc
      have hr1:i*k.esz<(i2+1)*k.esz:=by rw [Nat.add_mul,Nat.one_mul];omega
      have hr2:i2*k.esz<(i+1)*k.esz:=by rw [Nat.add_mul,Nat.one_mul];omega
      have:=Nat.lt_of_mul_lt_mul_right hr1
      have:=Nat.lt_of_mul_lt_mul_right hr2
      omega
     rw [if_neg hni]
     exact hv i2 row2 j v h2 h3)
  exact ⟨_,_,hrun,hput.1,hput.2⟩
theorem Qs {x:Value} (j:Nat):x.cells.toList.getD j undef=x.cells.getD j undef:=by
 simp [List.getD_eq_getElem?_getD,Array.getD_eq_getD_getElem?]
theorem Qy [Frame] (H:aE μ h w) (E:dN μ h w f a) {C:aU} {ow:FuncId→List Nat} {o:Oper} {t:TypeId} {x y:Operand} {x' y':Opd} {s:Nat} (hop:o.op= .store t x y) (hx:aI x=some x') (hy:aI y=some y')
 (hsz:fF P t=some s) {new:Nat} {v:V} {u:Upd} (hs:ai C ow (.store s x' y') (Opd.ev f) h new=some (v,u)):fC P o a μ h w v u:=by
 have hvx:=aS E hx
 have hvy:=aS E hy
 simp only [ai] at hs
 cases hax:x'.ev f with
 |ptr b i o' n=>
  rw [hax] at hs hvx
  dsimp only at hs
  cases hb:h b with
  |none=>rw [hb] at hs;cases hs
  |some k=>
   rw [hb] at hs
   dsimp only at hs
   split at hs
   ·rename_i hn
    cases hi:k.rows[i]? with
    |none=>rw [hi] at hs;cases hs
    |some row=>
     rw [hi] at hs
     dsimp only at hs
     obtain ⟨c,hm,R,hrl,h0⟩:=ya H hb hi
     obtain ⟨c',hm',hxe⟩:=YR hvx hb hn (by rw [←hn];exact bu hi) h0
     rw [hm] at hm';cases hm'
     have hsize:=dg hsz
     split at hs
     ·rename_i hopn
      split at hs
      ·rename_i hc
       cases hs
       obtain ⟨hc1,hc2,hc3⟩:=hc
       obtain ⟨g1,g2⟩:=hvy.cellsRel hc3
       obtain ⟨w',μ',hrun,hH,hC⟩:=Zr (P:=P) H hb hi hm (cs:=(y'.ev f).cells) (xs:=(a.eval y).cells.toList) (o:=o') (by rw [Array.length_toList];exact g1) (by omega)
        (fun j v hj=>by rw [Qs];exact g2 j v hj) (fun v hv=>⟨List.all_eq_true.1 hc3 v hv,fun e=>by rw [hopn] at e;cases e⟩)
       rw [hc1] at hH hC
       refine ⟨undef,w',μ',.inr ⟨?_,rfl⟩,hH,hC,.unk _⟩
       simp [execOp,hop,Instr.storeAt,Instr.sureAddr,hxe,storeVar,hsize,g1,hc1,hrun]
      ·cases hs
     ·rename_i hopn
      split at hs
      ·rename_i cs bs hsn
       split at hs
       ·rename_i hc
        cases hs
        obtain ⟨hc1,hc2,hc3⟩:=hc
        have hsn0:=hsn
        have hall:(y'.ev f).cells.all V.cell=true:=by
         rw [List.all_eq_true]
         intro v hv
         exact snaps_cell hsn v hv
        obtain ⟨g1,g2⟩:=hvy.cellsRel hall
        have hdom:=(Ba H h (μ':=fun _=>none) (fun b c e=>by cases e) (fun j=>(a.eval y).cells.getD j undef) hsn g2 (fun b _=>rfl)).2.2.2
        obtain ⟨μ1,H1,C1,hk1,hsub,hoth⟩:=a5M bs hdom H
        obtain ⟨q1,q2,q3,_⟩:=Ba H (dU h (eO bs)) hsub (fun j=>(a.eval y).cells.getD j undef) hsn g2 hk1
        obtain ⟨hmb,hhb⟩:=hoth b hc3
        obtain ⟨w',μ',hrun,hH,hC⟩:=Zr (P:=P) H1 (by rw [hhb];exact hb) hi (by rw [hmb];exact hm) (cs:=cs) (xs:=(a.eval y).cells.toList) (o:=o') (by rw [Array.length_toList,g1,q1]) (by omega)
         (fun j v hj=>by rw [Qs];exact q2 j v hj) (fun v hv=>⟨(q3 v hv).2,fun _=>(q3 v hv).1⟩)
        rw [hc1] at hH hC
        refine ⟨undef,w',μ',.inr ⟨?_,rfl⟩, ?_, ?_,.unk _⟩
        ·simp [execOp,hop,Instr.storeAt,Instr.sureAddr,hxe,storeVar,hsize,g1, ←q1,hc1,hrun]
        ·rw [ld];exact hH
        ·rw [ld];exact C1.trans hC
       ·cases hs
      ·cases hs
   ·cases hs
 |_=>rw [hax] at hs;cases hs
where
 snaps_cell: ∀{vs vs':List V} {bs:List Nat},iw h vs=some (vs',bs)→ ∀v∈vs,v.cell=true
  |[],_,_,_,v,hv=>by cases hv
  |x::vs,vs',bs,hs,v,hv=>by
   simp only [iw] at hs
   split at hs
   ·rename_i v1 bs1 r1 bs2 h1 h2
    rcases List.mem_cons.1 hv with rfl|hv
    ·cases v<;>first
      |rfl
      | (simp [kP] at h1;done)
      | (simp only [kP] at h1;split at h1<;>simp_all [V.cell,V.cl])
    ·exact snaps_cell h2 v hv
   ·cases hs
end
end Go.AI
