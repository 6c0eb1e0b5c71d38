/- The operations of the abstract machine and the model's. Eighth part: cuts, copies, slices that are laid, arrays out of slices. -/
import Derived.Test.YtdmhkkcihecndaaGreatAiOps7
set_option linter.unusedVariables false
set_option linter.unusedSimpArgs false
namespace Go.AI
section
variable {P:Program} {μ:Mu} {h:ak} {w:World} {f:Nat→V} {a:Act}
theorem Bh [Frame] {x:Operand} {y:Opd} (E:dN μ h w f a) (hx:aI x=some y) {dflt most n:Nat} (hb:bJ (some (y.ev f)) dflt most=some n) (code:BoundsCode):
 n≤most∧(Instr.sliceBound (a.eval x) most code).run P w= .ok n w:=by
 simp only [bJ] at hb
 split at hb
 ·rename_i i hi
  split at hb
  ·rename_i hc
   cases hb
   obtain ⟨k,hk⟩:=ru hi (aS E hx)
   exact ⟨by omega,by simp [Instr.sliceBound,hk,asIntOf,hc]⟩
  ·cases hb
 ·cases hb
theorem nA [Frame] (E:dN μ h w f a) {isS:Bool} {len cap:Nat} {lo hi:Option Operand} {lo' hi':Option Opd} (hlo:jH lo=some lo') (hhi:jH hi=some hi') {p q most:Nat} (hm:most≤cap) (hml:len≤most)
 (hq:bJ (hi'.map (Opd.ev f)) len most=some q) (hp:bJ (lo'.map (Opd.ev f)) 0 q=some p):
 p≤q∧q≤most∧(Instr.sliceBounds isS len cap (lo.map a.eval) (hi.map a.eval) none).run P w= .ok (p,q,cap) w:=by
 have hh:q≤most∧(∀x,hi=some x→ ∀code,(Instr.sliceBound (a.eval x) cap code).run P w= .ok q w)∧(hi=none→q=len):=by
  cases hi with
  |none=>
   simp [jH] at hhi;subst hhi
   simp [bJ] at hq;subst hq
   exact ⟨hml,(fun x h=>by cases h),(fun _=>rfl)⟩
  |some x=>
   simp only [jH] at hhi
   split at hhi
   ·rename_i y hy
    cases hhi
    have hq2:bJ (some (y.ev f)) len cap=some q:=by
     simp only [Option.map_some,bJ] at hq ⊢
     split at hq
     ·split at hq
      ·rename_i hc;rw [if_pos ⟨hc.1,by omega⟩];exact hq
      ·cases hq
     ·cases hq
    have h1:=(Bh (P:=P) E hy (show bJ (some (y.ev f)) len most=some q from hq) .sliceB).1
    exact ⟨h1,fun x' h code=>by cases h;exact (Bh E hy hq2 code).2,fun h=>by cases h⟩
   ·cases hhi
 obtain ⟨h1,h2,h2'⟩:=hh
 have hl:p≤q∧(∀x,lo=some x→ ∀code,(Instr.sliceBound (a.eval x) q code).run P w= .ok p w)∧(lo=none→p=0):=by
  cases lo with
  |none=>
   simp [jH] at hlo;subst hlo
   simp [bJ] at hp;subst hp
   exact ⟨Nat.zero_le _,(fun x h=>by cases h),(fun _=>rfl)⟩
  |some x=>
   simp only [jH] at hlo
   split at hlo
   ·rename_i y hy
    cases hlo
    exact ⟨(Bh (P:=P) E hy hp .sliceB).1,fun x' h code=>by cases h;exact (Bh E hy hp code).2,fun h=>by cases h⟩
   ·cases hlo
 refine ⟨hl.1,h1, ?_⟩
 cases hi with
 |none=>
  have:=h2' rfl
  subst this
  cases lo with
  |none=>have:=hl.2.2 rfl;subst this;simp [Instr.sliceBounds]
  |some y=>simp [Instr.sliceBounds,hl.2.1 y rfl]
 |some x=>
  cases lo with
  |none=>have:=hl.2.2 rfl;subst this;cases isS<;>simp [Instr.sliceBounds,h2 x rfl]
  |some y=>cases isS<;>simp [Instr.sliceBounds,h2 x rfl,hl.2.1 y rfl]
theorem So [Frame] (H:aE μ h w) (E:dN μ h w f a) {o:Oper} {t:TypeId} {x:Operand} {lo hi:Option Operand} {x':Opd} {lo' hi':Option Opd} (hop:o.op= .slice t x lo hi none) (hx:aI x=some x') (hlo:jH lo=some lo') (hhi:jH hi=some hi')
 (hu:P.underlying t=some .string) {C:aU} {ow:FuncId→List Nat} {new:Nat} {v:V} {u:Upd} (hs:ai C ow (.sliceStr x' lo' hi') (Opd.ev f) h new=some (v,u)):fC P o a μ h w v u:=by
 have hvx:=aS E hx
 simp only [ai] at hs
 split at hs
 ·rename_i s hb
  split at hs
  ·rename_i q hq
   split at hs
   ·rename_i p hp
    cases hs
    rw [hb] at hvx
    obtain ⟨h1,h2,h3⟩:=nA (P:=P) E (isS:=false) hlo hhi (Nat.le_refl _) (Nat.le_refl _) hq hp
    refine .quiet H (x:= .string (s.extract p q)) ?_ (.lit _)
    simp [execOp,hop,Instr.sliceAt,Instr.slice,run_underlying hu,cn hvx,h3]
   ·cases hs
  ·cases hs
 ·cases hs
theorem a03 [Frame] {e p q cap':Nat} {rows:List (List V)} {c off cap:Nat} (hv:aj μ h w (.imm e rows) (.slice (some ⟨c,off,none⟩) rows.length cap)) (hr:rows≠[]) (hpq:p≤q) (hq:q≤rows.length) (hqc:q-p≤cap')
 {ad:Option Addr} (had:p<q→ad=some ⟨c,off+p*e,none⟩):aj μ h w (.imm e ((rows.take q).drop p)) (.slice ad (q-p) cap'):=by
 generalize hX:(Value.slice (some ⟨c,off,none⟩) rows.length cap)=X at hv
 cases hv with
 |emp=>exact absurd rfl hr
 |imm0=>exact absurd rfl hr
 |imm _ _ c' off' cap'' ys he _ hcp hc hs hrow hcell hvv=>
  injection hX with h1 h2 h3
  injection h1 with h1
  injection h1 with h4 h5
  subst h4 h5
  have hlen:((rows.take q).drop p).length=q-p:=by simp;omega
  by_cases hz:p=q
  ·subst hz
   have:(rows.take p).drop p=[]:=List.eq_nil_of_length_eq_zero (by omega)
   rw [this,Nat.sub_self]
   exact .imm0 _ _ _ (by omega)
  ·have hlt:p<q:=by omega
   rw [had hlt, ←hlen]
   have get: ∀i,i<q-p→((rows.take q).drop p)[i]? =rows[p+i]? :=by
    intro i hi
    rw [List.getElem?_drop,List.getElem?_take,if_pos (by omega)]
   refine .imm e _ c (off+p*e) cap' (fun i j=>ys (p+i) j) he (by intro e0;rw [e0] at hlen;simp at hlen;omega) (by omega) hc hs
    (fun row hrow'=>hrow row (List.mem_of_mem_take (List.mem_of_mem_drop hrow'))) (fun i j hi hj=> ?_) (fun i row j v hi hj=> ?_)
   ·have:=hcell (p+i) j (by omega) hj
    rw [←this,Nat.add_mul]
    congr 2
    omega
   ·have hil:=bu hi
    rw [get i (by omega)] at hi
    exact hvv (p+i) row j v hi hj
theorem a2Y [Frame] (H:aE μ h w) (E:dN μ h w f a) {o:Oper} {t e:TypeId} {x:Operand} {lo hi mx:Option Operand} {x':Opd} {lo' hi' mx':Option Opd} {s0:Nat} (hop:o.op= .slice t x lo hi mx) (hx:aI x=some x') (hlo:jH lo=some lo') (hhi:jH hi=some hi') (hmx:jH mx=some mx')
 (hu:P.underlying t=some (.slice e)) (hsz:fF P e=some s0) {C:aU} {ow:FuncId→List Nat} {new:Nat} {v:V} {u:Upd} (hs:ai C ow (.slice s0 x' lo' hi' mx') (Opd.ev f) h new=some (v,u)):fC P o a μ h w v u:=by
 have hvx:=aS E hx
 have hmn:mx'=none→mx=none:=by
  intro h1
  cases mx with
  |none=>rfl
  |some y=>
   simp only [jH] at hmx
   split at hmx
   ·subst h1;cases hmx
   ·cases hmx
 have run: ∀ad n cap p q,a.eval x= .slice ad n cap→p≤q→mx=none→(Instr.sliceBounds true n cap (lo.map a.eval) (hi.map a.eval) none).run P w= .ok (p,q,cap) w→
  (execOp a.eval o).run P w= .ok (.value (.slice (if cap=p then ad else ad.map (·.add (p*s0))) (q-p) (cap-p))) w:=by
  intro ad n cap p q hX hpq hm hb
  subst hm
  simp [execOp,hop,Instr.sliceAt,Instr.slice,run_underlying hu,hX,hb,dg hsz]
 simp only [ai] at hs
 split at hs
 ·cases hs
 ·have hm:=hmn rfl
  split at hs
  ·rename_i hb
   split at hs
   ·rename_i q hq
    split at hs
    ·rename_i p hp
     cases hs
     rw [hb] at hvx
     obtain ⟨h1,h2,h3⟩:=nA (P:=P) E (isS:=true) (cap:=0) hlo hhi (Nat.le_refl _) (Nat.le_refl _) hq hp
     have hq0:q=0:=by omega
     subst hq0
     have hp0:p=0:=by omega
     subst hp0
     exact .quiet H (run none 0 0 0 0 (cn hvx) (Nat.le_refl _) hm h3) (.lit _)
    ·cases hs
   ·cases hs
  ·rename_i b s n hb
   split at hs
   ·rename_i k hk
    split at hs
    ·rename_i hc
     obtain ⟨c1,c2,c3,c4⟩:=hc
     split at hs
     ·rename_i q hq
      split at hs
      ·rename_i p hp
       rw [hb] at hvx
       generalize hX:a.eval x=X at hvx
       have hvx0:=hvx
       cases hvx with
       |sl _ _ _ _ k' hk' hn' hx' hp'=>
        rw [hk] at hk';cases hk'
        obtain ⟨ad,cap,rfl,hok⟩:=hp' (by omega) c4
        have hncap:n≤cap:=by rcases hok with ⟨g1,g2⟩|⟨_,_,_,_,g⟩<;>omega
        obtain ⟨h1,h2,h3⟩:=nA (P:=P) E (isS:=true) (cap:=cap) hlo hhi hncap (Nat.le_refl _) hq hp
        have hrun:=run ad n cap p q hX h1 hm h3
        split at hs
        ·rename_i hqn
         subst hqn
         cases hs
         refine .quiet H hrun (.sl _ _ _ _ k hk (.inr (by omega)) ⟨_,_,rfl⟩ (fun _ _=>⟨_,_,rfl, ?_⟩))
         rcases hok with ⟨g1,g2⟩|⟨c,hcm,rfl,hcap,hnc⟩
         ·exact .inl ⟨by omega,by omega⟩
         ·by_cases hcp:cap=p
          ·exact .inl ⟨by omega,by omega⟩
          ·refine .inr ⟨c,hcm, ?_, ?_,by omega⟩
           ·rw [if_neg hcp,Option.map_some,pk,Nat.add_mul,c3]
           ·have:s+p+(cap-p)=s+cap:=by omega
            rw [this];exact hcap
        ·rename_i hqn
         cases hs
         obtain ⟨H1,C1⟩:=H.kill hk
         have himm:=Ge H hk c1 c2 c4 hvx0 (μ':=bO μ b none) (bj h b is) (by simp [bO]) (fun b' c h5=>by unfold bO at h5;split at h5<;>first| (cases h5;done)|exact h5)
         refine ⟨_,w,bO μ b none,.inl hrun,H1,C1, ?_⟩
         have hlen:(k.rows.drop s).length=n:=by simp;omega
         rcases hok with ⟨g1,g2⟩|⟨c,hcm,rfl,hcap,hnc⟩
         ·omega
         ·have hne:k.rows.drop s≠[]:=by intro e0;rw [e0] at hlen;simp at hlen;omega
          have himm':aj (bO μ b none) (bj h b is) w (.imm k.esz (k.rows.drop s)) (.slice (some ⟨c,s*k.esz,none⟩) (k.rows.drop s).length cap):=by rw [hlen];exact himm
          rw [←c3]
          refine aj.cz (a03 himm' hne h1 (by omega) (by omega) (fun hpq=> ?_))
          rw [if_neg (by omega),Option.map_some,pk]
      ·cases hs
     ·cases hs
    ·cases hs
   ·cases hs
  ·rename_i e' rows hb
   split at hs
   ·rename_i he
    split at hs
    ·rename_i q hq
     split at hs
     ·rename_i p hp
      cases hs
      rw [hb] at hvx
      generalize hX:a.eval x=X at hvx
      have hvx0:=hvx
      cases hvx with
      |emp ad=>
       obtain ⟨h1,h2,h3⟩:=nA (P:=P) E (isS:=true) (cap:=0) hlo hhi (Nat.le_refl _) (Nat.le_refl _) hq hp
       have h2:q≤0:=h2
       have hq0:q=0:=by omega
       subst hq0
       have hp0:p=0:=by omega
       subst hp0
       exact .quiet H (run ad 0 0 0 0 hX (Nat.le_refl _) hm h3) hvx0.cz
      |imm0 _ ad cap he0=>
       obtain ⟨h1,h2,h3⟩:=nA (P:=P) E (isS:=true) (cap:=cap) hlo hhi (Nat.zero_le _) (Nat.le_refl _) hq hp
       have h2:q≤0:=h2
       have hq0:q=0:=by omega
       subst hq0
       have hp0:p=0:=by omega
       subst hp0
       refine .quiet H (run ad 0 cap 0 0 hX (Nat.le_refl _) hm h3) ?_
       have e9:(List.drop 0 (List.take 0 ([]:List (List V))))=[]:=rfl
       rw [e9]
       exact (aj.imm0 _ _ _ he0).cz
      |imm _ _ c off cap ys he0 hr hcp hc hs hrow hcell hv=>
       obtain ⟨h1,h2,h3⟩:=nA (P:=P) E (isS:=true) (cap:=cap) hlo hhi hcp (Nat.le_refl _) hq hp
       have he:e'=s0:=by
        rcases he with he|he
        ·exact he
        ·exact absurd he hr
       subst he
       refine .quiet H (run _ _ cap p q hX h1 hm h3) (aj.cz (a03 hvx0 hr h1 h2 (by omega) (fun hpq=> ?_)))
       rw [if_neg (by omega),Option.map_some,pk]
     ·cases hs
    ·cases hs
   ·cases hs
  ·cases hs
end
end Go.AI
