/- A call among operations; and any operation, as the model steps through it. -/
import Derived.Test.YtdmhkkcihecndaaGreatAiCall3
set_option linter.unusedVariables false
set_option linter.unusedSimpArgs false
namespace Go.AI
def ja (F:Frame) (μ:Mu) (h:ak) (w:World) (r:V) (blks':List Blk) (x:Value) (w':World):Prop:=
 ∃μ', @aE F μ' (bf blks') w'∧ @Chg F μ h w μ' (bf blks') w'∧ @aj F μ' (bf blks') w' r x∧okR r=true∧ ∀k∈blks',okB k
def Reach (P:Program) (f:FuncId) (xs:Array Value) (w:World) (R:Value→World→Prop):Prop:=
 (∃x w',(callFunc f xs).run P w= .ok (.value x) w'∧R x w')∨
 ((callFunc f xs).run P w= .ok (.enter f xs) w∧Calls P f xs w (fun| .returned v,w'=>R v w'|_,_=>False))
theorem Reach.mono {P:Program} {f:FuncId} {xs:Array Value} {w:World} {R R':Value→World→Prop} (h:Reach P f xs w R) (hr: ∀x w',R x w'→R' x w'):Reach P f xs w R':=by
 rcases h with ⟨x,w',h1,h2⟩|⟨h1,h2⟩
 ·exact .inl ⟨x,w',h1,hr _ _ h2⟩
 ·refine .inr ⟨h1,h2.mono (fun e w' he=> ?_)⟩
  cases e with
  |returned v=>exact hr _ _ he
  |_=>exact he
def gA (P:Program) (C:aU):Prop:= ∀(f:FuncId) (args:List V) (blks:List Blk) (r:V) (blks':List Blk),C f args blks=some (r,blks')→
 ∀(F:Frame) (μ:Mu) (w:World) (xs:Array Value), @aE F μ (bf blks) w→xs.size=args.length→(∀(i:Nat) (v:V),args[i]? =some v→ @aj F μ (bf blks) w v (xs.getD i undef))→
 Reach P f xs w (ja F μ (bf blks) w r blks')
theorem aj.czA [Frame] {μ:Mu} {h:ak} {w:World} {v:V} {x:Value} (hv:aj μ h w v x):aj μ h w v.czA x:=by
 cases v with
 |agg cs=>
  cases hv with
  |agg _ xs hl hcell hc=>
   refine .agg _ xs (by simp [hl]) (fun v hv=> ?_) (fun i v hi=> ?_)
   ·obtain ⟨u,hu,rfl⟩:=List.mem_map.1 hv
    exact EJ (hcell u hu)
   ·rw [List.getElem?_map] at hi
    cases hu:cs[i]? with
    |none=>rw [hu] at hi;cases hi
    |some u=>rw [hu] at hi;cases hi;exact (hc i u hu).cz
 |_=>exact hv.cz
theorem aj.czR [Frame] {μ:Mu} {h:ak} {w:World} {v:V} {x:Value} (hv:aj μ h w v x):aj μ h w v.czR x:=by
 cases v with
 |tup vs=>
  cases hv with
  |tup _ xs hl hc=>
   refine .tup _ xs (by simp [hl]) (fun i v hi=> ?_)
   rw [List.getElem?_map] at hi
   cases hu:vs[i]? with
   |none=>rw [hu] at hi;cases hi
   |some u=>rw [hu] at hi;cases hi;exact (hc i u hu).czA
 |_=>exact hv.czA
theorem b2R {v:V} (h:okC v=true):okC v.cz=true:=by
 rcases v.cz_or with h1|⟨_,h1⟩|⟨e,_,h1⟩
 ·rw [h1];exact h
 ·rw [h1];rfl
 ·rw [h1];rfl
theorem a02 {v:V} (h:okA v=true):okA v.czA=true:=by
 cases v with
 |agg cs=>
  simp only [okA,V.czA,List.all_map,List.all_eq_true] at h ⊢
  exact fun v hv=>b2R (h v hv)
 |tup cs=>simp [okA,okC] at h
 |lit v=>
  show okA (V.cz (.lit v))=true
  rcases V.cz_or (.lit v) with h1|⟨_,h1⟩|⟨e,_,h1⟩<;>rw [h1]<;>first|exact h|rfl
 |imm e r=>
  show okA (V.cz (.imm e r))=true
  rcases V.cz_or (.imm e r) with h1|⟨_,h1⟩|⟨e,_,h1⟩<;>rw [h1]<;>first|exact h|rfl
 |_=>exact h
theorem a9u {v:V} (h:okR v=true):okR v.czR=true:=by
 cases v with
 |tup vs=>
  simp only [okR,V.czR,List.all_map,List.all_eq_true] at h ⊢
  exact fun v hv=>a02 (h v hv)
 |agg cs=>exact a02 (v:= .agg cs) h
 |lit v=>
  show okR (V.cz (.lit v))=true
  rcases V.cz_or (.lit v) with h1|⟨_,h1⟩|⟨e,_,h1⟩<;>rw [h1]<;>first|exact h|rfl
 |imm e r=>
  show okR (V.cz (.imm e r))=true
  rcases V.cz_or (.imm e r) with h1|⟨_,h1⟩|⟨e,_,h1⟩<;>rw [h1]<;>first|exact h|rfl
 |_=>exact h
theorem M7 (k:Blk):k.cz.esz=k.esz:=by unfold Blk.cz;split<;>rfl
theorem b1y (k:Blk):k.cz.op=k.op:=by unfold Blk.cz;split<;>rfl
theorem a5k (k:Blk):k.cz.rows.length=k.rows.length:=by unfold Blk.cz;split<;>simp
theorem b2U {v:V} (h:okD v=true):okD v.cz=true:=by
 rcases V.cz_or v with h1|⟨_,h1⟩|⟨e,_,h1⟩
 ·rw [h1];exact h
 ·rw [h1];rfl
 ·rw [h1];rfl
theorem b3f {k:Blk} (h:okB k):okB k.cz:=by
 intro hop row hrow v hv
 rw [b1y] at hop
 unfold Blk.cz at hrow
 rw [if_pos hop] at hrow
 obtain ⟨r0,hr0,rfl⟩:=List.mem_map.1 hrow
 obtain ⟨u,hu,rfl⟩:=List.mem_map.1 hv
 exact b2U (h hop r0 hr0 u hu)
theorem KL (blks:List Blk) (b:Nat):bf (blks.map Blk.cz) b=(bf blks b).map Blk.cz:=by simp [bf]
theorem KP {F:Frame} {μ:Mu} {w:World} (blks:List Blk): @Chg F μ (bf blks) w μ (bf (blks.map Blk.cz)) w:=
 @Chg.mk F _ _ _ _ _ _ (@jc.refl F _ _) (fun b k hk=>⟨k.cz,by rw [KL,hk];rfl,.inr (.inr ⟨M7 k,a5k k,rfl,fun _ _=>rfl⟩)⟩)
theorem Zq {F:Frame} {μ:Mu} {w:World} {blks:List Blk} (H: @aE F μ (bf blks) w): @aE F μ (bf (blks.map Blk.cz)) w:=by
 have inv: ∀b k',bf (blks.map Blk.cz) b=some k'→ ∃k,bf blks b=some k∧k'=k.cz:=by
  intro b k' hk
  rw [KL] at hk
  cases hb:bf blks b with
  |none=>rw [hb] at hk;cases hk
  |some k=>rw [hb] at hk;cases hk;exact ⟨k,rfl,rfl⟩
 refine @aE.mk F _ _ _ (b3P H) (fun b c h1=> ?_) (fun b k' hk'=> ?_) (fun b k' hk'=> ?_) (TA H) (b1z H)
 ·obtain ⟨k,h2,h3⟩:=b3j H b c h1
  exact ⟨k.cz,by rw [KL,h2];rfl,by rw [M7];exact h3⟩
 ·obtain ⟨k,hk,rfl⟩:=inv b k' hk'
  rcases b25 H b k hk with ⟨g1,g2,g3⟩|⟨g0,c,arr,t,lo,hi,gm,gh,gf,gl,gv⟩
  ·exact .inl ⟨by unfold Blk.cz;rw [if_neg (by simp [g2])];exact g1,by rw [b1y];exact g2,g3⟩
  ·refine .inr ⟨by rw [M7];exact g0,c,arr,t,lo,hi,gm,gh,gf,by rw [M7,a5k];exact gl,fun i row j v hi hj=> ?_⟩
   rw [M7]
   have old: ∃row0 v0,k.rows[i]? =some row0∧row0[j]? =some v0∧(v=v0∨v=v0.cz):=by
    unfold Blk.cz at hi
    split at hi
    ·simp only [List.getElem?_map] at hi
     cases hr:k.rows[i]? with
     |none=>rw [hr] at hi;cases hi
     |some row0=>
      rw [hr] at hi;cases hi
      rw [List.getElem?_map] at hj
      cases hv0:row0[j]? with
      |none=>rw [hv0] at hj;cases hj
      |some v0=>rw [hv0] at hj;cases hj;exact ⟨row0,v0,rfl,hv0,.inr rfl⟩
    ·exact ⟨row,v,hi,hj,.inl rfl⟩
   obtain ⟨row0,v0,h1,h2,h3⟩:=old
   have h4:=(gv i row0 j v0 h1 h2).chg (KP blks)
   rcases h3 with rfl|rfl
   ·exact h4
   ·exact h4.cz
 ·obtain ⟨k,hk,rfl⟩:=inv b k' hk'
  intro row hrow
  have:=a05 H b k hk
  unfold Blk.cz at hrow ⊢
  split at hrow
  ·rename_i hop
   rw [if_pos hop]
   obtain ⟨r0,hr0,rfl⟩:=List.mem_map.1 hrow
   refine ⟨by simpa using (this r0 hr0).1,fun v hv=> ?_⟩
   obtain ⟨u,hu,rfl⟩:=List.mem_map.1 hv
   exact ⟨EJ ((this r0 hr0).2 u hu).1,fun h=>ZV (((this r0 hr0).2 u hu).2 h)⟩
  ·rename_i hop
   rw [if_neg hop]
   exact this row hrow
theorem ja.base {F:Frame} {μ:Mu} {blks:List Blk} {w:World} {r:V} {blks':List Blk} {x:Value} {w':World} (h:ja F μ (bf (blks.map Blk.cz)) w r blks' x w'):ja F μ (bf blks) w r blks' x w':=by
 obtain ⟨μ',h1,h2,h3⟩:=h
 exact ⟨μ',h1, @Chg.trans _ _ _ F _ _ _ _ _ _ (KP blks) h2,h3⟩
theorem ja.czR {F:Frame} {μ:Mu} {h:ak} {w:World} {r:V} {blks':List Blk} {x:Value} {w':World} (p:ja F μ h w r blks' x w'):ja F μ h w r.czR blks' x w':=by
 obtain ⟨μ',h1,h2,h3,h4,h5⟩:=p
 exact ⟨μ',h1,h2, @aj.czR F _ _ _ _ _ h3,a9u h4,h5⟩
theorem ja.czB {F:Frame} {μ:Mu} {h:ak} {w:World} {r:V} {blks':List Blk} {x:Value} {w':World} (p:ja F μ h w r blks' x w'):ja F μ h w r (blks'.map Blk.cz) x w':=by
 obtain ⟨μ',h1,h2,h3,h4,h5⟩:=p
 exact ⟨μ',Zq h1, @Chg.trans _ _ _ F _ _ _ _ _ _ h2 (KP blks'),h3.chg (KP blks'),h4,fun k hk=>by
  obtain ⟨k0,hk0,rfl⟩:=List.mem_map.1 hk
  exact b3f (h5 k0 hk0)⟩
section
variable {F:Frame} {P:Program} {C:aU} {μ:Mu} {h:ak} {w:World}
theorem U2 (hC:gA P C) {owns:FuncId→List Nat} {new:Nat} {f:FuncId} {args:List V} {v:V} {u:Upd} {xs:Array Value} (H: @aE F μ h w) (hl:xs.size=args.length)
 (hv: ∀(i:Nat) (v:V),args[i]? =some v→ @aj F μ h w v (xs.getD i undef)) (hs:iJ C owns h new f args=some (v,u)):
 Reach P f xs w (fun x w'=> ∃μ', @aE F μ' (dU h u) w'∧ @Chg F μ h w μ' (dU h u) w'∧ @aj F μ' (dU h u) w' v x):=by
 unfold iJ at hs
 split at hs
 ·cases hs
 ·rename_i args' blks ids bor hp
  split at hs
  ·cases hs
  ·rename_i r blks' hc
   obtain ⟨W,hal,hloc⟩:=a3F hp
   have hrel: ∀(i:Nat) (v':V),args'[i]? =some v'→ @aj (jC F μ ids bor) (jW μ ids) (bf blks) w v' (xs.getD i undef):=fun i v' hi=>by
    obtain ⟨v0,h0⟩:=cH (l:=args) (i:=i) (by rw [←hal];exact cu hi)
    exact QO W H (hloc i v0 v' h0 hi) (hv i v0 h0)
   have key:Reach P f xs w (ja (jC F μ ids bor) (jW μ ids) (bf blks) w r blks'):=by
    unfold oh nL at hc
    cases hraw:(owns f).contains 1000 with
    |true=>
     rw [hraw] at hc
     exact hC f args' blks r blks' hc (jC F μ ids bor) (jW μ ids) w xs (TE W H) (by omega) hrel
    |false=>
     rw [hraw] at hc
     simp only [Bool.false_eq_true,if_false] at hc
     refine (hC f _ _ r blks' hc (jC F μ ids bor) (jW μ ids) w xs (Zq (TE W H)) (by simp;omega) (fun i v hi=> ?_)).mono (fun x w' hp=>hp.base)
     rw [List.getElem?_map] at hi
     cases hu:args'[i]? with
     |none=>rw [hu] at hi;cases hi
     |some u=>rw [hu] at hi;cases hi;exact @aj.czA (jC F μ ids bor) _ _ _ _ _ (@aj.chg (jC F μ ids bor) _ _ _ _ _ _ (KP blks) _ _ (hrel i u hu))
   refine key.mono (fun x w' hpost=> ?_)
   ·obtain ⟨μ1,H1,C1,V1,ho,hok⟩:=hpost
    exact a30 W H hs H1 C1 V1 ho hok
end
section
variable {P:Program} {C:aU} {μ:Mu} {h:ak} {w:World} {f:Nat→V} {a:Act}
theorem Ve [Frame] (E:dN μ h w f a): ∀{l:List Operand} {l':List Opd},gu l=some l'→l'.length=l.length∧ ∀(i:Nat) (v:V),(l'.map (Opd.ev f))[i]? =some v→aj μ h w v ((l.map a.eval).getD i undef)
 |[],l',hl=>by
  simp [gu] at hl;subst hl
  exact ⟨rfl,fun i v hi=>by simp at hi⟩
 |x::r,l',hl=>by
  simp only [gu] at hl
  split at hl
  ·rename_i y r' h1 h2
   cases hl
   obtain ⟨i1,i2⟩:=Ve E h2
   refine ⟨by simp [i1],fun i v hi=> ?_⟩
   cases i with
   |zero=>simp at hi;subst hi;exact aS E h1
   |succ i=>exact i2 i v (by simpa using hi)
  ·cases hl
theorem a7P {o:Oper} {g:FuncId} {xs:Array Value} {next:Act→World→Prop} {Q:Exit→Act→World→Prop} (hrun:(execOp a.eval o).run P w=(callFunc g xs).run P w)
 (hr:Reach P g xs w (fun x w'=>next (a.put o.dst x) w')):o.wp P a w next Q:=by
 unfold Oper.wp
 rw [hrun]
 rcases hr with ⟨x,w',h1,h2⟩|⟨h1,h2⟩
 ·rw [h1];exact h2
 ·rw [h1,Oper.upon_enter]
  refine h2.mono (fun e w' he=> ?_)
  cases e with
  |returned v=>exact he
  |panicked c=>exact he.elim
  |outgrown=>exact he.elim
theorem Li [Frame] (hC:gA P C) (H:aE μ h w) (E:dN μ h w f a) {ow:FuncId→List Nat} {o:Oper} {ao:AOp} (hc:cN P o.op=some ao) {new:Nat} {v:V} {u:Upd}
 (hs:ai C ow ao (Opd.ev f) h new=some (v,u)) {next:Act→World→Prop} {Q:Exit→Act→World→Prop}
 (K: ∀x w' μ',aE μ' (dU h u) w'→Chg μ h w μ' (dU h u) w'→aj μ' (dU h u) w' v x→next (a.put o.dst x) w'):o.wp P a w next Q:=by
 cases hn:ia ao with
 |false=>
  obtain ⟨x,w',μ',hr,H',C',V'⟩:=a6s H E hc hn hs
  unfold Oper.wp
  rcases hr with hr|⟨hr,rfl⟩
  ·rw [hr,Oper.upon_value];exact K x w' μ' H' C' V'
  ·rw [hr,Oper.upon_skip];exact K undef w' μ' H' C' V'
 |true=>
  generalize hop:o.op=op at hc
  cases op with
  |call c=>
   have key: ∀(g:FuncId) (args:List Opd) (caps:List V) (xs:Array Value),gu c.args.toList=some args→(execOp a.eval o).run P w=(callFunc g (c.args.map a.eval++xs)).run P w→xs.size=caps.length→
    (∀(i:Nat) (v:V),caps[i]? =some v→aj μ h w v (xs.getD i undef))→iJ C ow h new g (args.map (Opd.ev f)++caps)=some (v,u)→o.wp P a w next Q:=by
    intro g args caps xs hargs hrun hxs hcaps hcall
    obtain ⟨i1,i2⟩:=Ve E hargs
    refine a7P hrun ((U2 hC H (by simp [i1,hxs]) (fun i v hi=> ?_) hcall).mono (fun x w' ⟨μ',H',C',V'⟩=>K x w' μ' H' C' V'))
    rcases Nat.lt_or_ge i args.length with hlt|hge
    ·rw [List.getElem?_append_left (by simpa using hlt)] at hi
     have:=i2 i v hi
     rw [List.getD_eq_getElem?_getD] at this
     rw [Array.getD_eq_getD_getElem?,Array.getElem?_append_left (by simpa [i1] using hlt), ←Array.getElem?_toList]
     simpa using this
    ·rw [List.getElem?_append_right (by simpa using hge)] at hi
     rw [Array.getD_eq_getD_getElem?,Array.getElem?_append_right (by simpa [i1] using hge), ←Array.getD_eq_getD_getElem?]
     simp only [List.length_map,Array.size_map] at hi ⊢
     have:=hcaps _ v hi
     rw [i1,Array.length_toList] at this
     exact this
   have hcc:=hc
   simp only [cN] at hc
   split at hc
   ·rename_i g args hca hargs
    cases hc
    simp only [ai] at hs
    refine key g args [] #[] hargs ?_ rfl (fun i v hi=>by simp at hi) (by simpa using hs)
    simp [execOp,hop,resolve,hca,Deferred.ofValue,invoke,Act.eval]
   ·rename_i fv args hnf hca hargs
    split at hc
    ·rename_i fo hfo
     cases hc
     have hvf:=aS E hfo
     simp only [ai] at hs
     split at hs
     ·rename_i g caps hev
      rw [hev] at hvf
      obtain ⟨xs,hx,hxl,hxv⟩:=a52 hvf
      refine key g args caps xs hargs ?_ hxl hxv hs
      simp [execOp,hop,resolve,hca,hx,Deferred.ofValue,invoke]
     ·cases hs
    ·cases hc
   ·exfalso
    repeat' (first|contradiction| (cases hc;simp [ia] at hn;done)| (split at hc))
   ·exfalso
    repeat' (first|contradiction| (cases hc;simp [ia] at hn;done)| (split at hc))
   ·exfalso
    repeat' (first|contradiction| (cases hc;simp [ia] at hn;done)| (split at hc))
   ·cases hc;simp [ia] at hn
   ·cases hc;simp [ia] at hn
   ·cases hc
  |_=>
   exfalso
   simp only [cN] at hc
   repeat' (first|contradiction| (obtain ⟨_,_,rfl⟩:=map_some hc;simp [ia] at hn;done)| (cases hc;simp [ia] at hn;done)| (split at hc))
end
end Go.AI
