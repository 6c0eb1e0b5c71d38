/- The operations of the abstract machine and the model's: what the one tells, the other does. First part: values, new blocks, loads and stores. -/
import Derived.Test.YtdmhkkcihecndaaGreatAiRun
set_option linter.unusedVariables false
set_option linter.unusedSimpArgs false
namespace Go.AI
section
variable {P:Program} {μ:Mu} {h:ak} {w:World} {f:Nat→V} {a:Act}
def dN [Frame] (μ:Mu) (h:ak) (w:World) (f:Nat→V) (a:Act):Prop:= ∀t,aj μ h w (f t) (a.tmps.getD t undef)
theorem aS [Frame] (E:dN μ h w f a) {x:Operand} {y:Opd} (hx:aI x=some y):aj μ h w (y.ev f) (a.eval x):=by
 cases x with
 |tmp t=>simp [aI] at hx;subst hx;exact E t
 |const v=>simp [aI] at hx;subst hx;exact .lit v
 |global g=>simp [aI] at hx
 |func k=>simp [aI] at hx;subst hx;exact .fn k [] #[] rfl (fun i v h=>by simp at h)
def fC [Frame] (P:Program) (o:Oper) (a:Act) (μ:Mu) (h:ak) (w:World) (v:V) (u:Upd):Prop:=
 ∃x w' μ',((execOp a.eval o).run P w= .ok (.value x) w'∨((execOp a.eval o).run P w= .ok .skip w'∧x=undef))∧
  aE μ' (dU h u) w'∧Chg μ h w μ' (dU h u) w'∧aj μ' (dU h u) w' v x
theorem fC.quiet [Frame] {o:Oper} {v:V} {x:Value} (H:aE μ h w) (hr:(execOp a.eval o).run P w= .ok (.value x) w) (hv:aj μ h w v x):fC P o a μ h w v []:=
 ⟨x,w,μ,.inl hr,H,Chg.refl _ _ _,hv⟩
def tD (w:World) (o:Obj):World:={ w with heap:=w.heap.push o }
theorem oM (w:World) (o:Obj):yO w (tD w o):=
 ⟨rfl,rfl,rfl,by show _≤(w.heap.push o).size;rw [Array.size_push];omega,fun c hc=>by show (w.heap.push o)[c]? =_;rw [Array.getElem?_push,if_neg (Nat.ne_of_lt hc)]⟩
theorem wm (w:World) (o:Obj):(tD w o).heap[w.heap.size]? =some o:=by show (w.heap.push o)[w.heap.size]? =_;rw [Array.getElem?_push,if_pos rfl]
theorem a0p [Frame] (H:aE μ h w) {new:Nat} (hn:h new=none) {cs:List V} {arr:Array Value} {t:TypeId} (h0:0<cs.length) (hsz:arr.size=cs.length)
 (hc: ∀v∈cs,v.cell=true) (hv: ∀j v,cs[j]? =some v→aj μ h w v (arr.getD j undef)):
 aE (bO μ new (some w.heap.size)) (bj h new ⟨cs.length,true,[cs]⟩) (tD w (.cells arr t))∧
 Chg μ h w (bO μ new (some w.heap.size)) (bj h new ⟨cs.length,true,[cs]⟩) (tD w (.cells arr t))∧
 aj (bO μ new (some w.heap.size)) (bj h new ⟨cs.length,true,[cs]⟩) (tD w (.cells arr t)) (.ptr new 0 0 1) (.pointer (some ⟨w.heap.size,0,none⟩)):=by
 have hnew:=H.new (oM w (.cells arr t)) (b:=new) (c:=w.heap.size) (k:=⟨cs.length,true,[cs]⟩) hn (Nat.le_refl _)
  (arr:=arr) (t:=t) (lo:=0) (hi:=0) (wm w _) (.inl rfl) h0 (by simp [hsz])
  (fun row hrow=>by simp at hrow;subst hrow;exact ⟨rfl,fun v hv=>⟨hc v hv,fun h=>by cases h⟩⟩)
  (fun i row j v h1 h2=>by
   cases i with
   |zero=>simp at h1;subst h1;simpa using hv j v h2
   |succ i=>simp at h1)
 refine ⟨hnew.1,hnew.2,.ptr new 0 0 1 _ ⟨cs.length,true,[cs]⟩ (by simp [bj]) (.inr (by simp)) ⟨_,_,rfl⟩ (fun _ _ _=>⟨w.heap.size,by simp [bO],by simp⟩)⟩
theorem mw {n:Nat} {k:Blk} {v:V} {r:V×Upd} (hf:iW h n k v=some r):h n=none∧0<k.esz∧r=(v,[(n,k)]):=by
 unfold iW at hf
 split at hf
 ·rename_i hc;cases hf;exact ⟨by simpa using hc.1,hc.2,rfl⟩
 ·cases hf
theorem a2Z [Frame] (H:aE μ h w) {o:Oper} {t:TypeId} {z:List Value} (ho:o.op= .alloc t) (hz:zr P t=some z) {new:Nat} {v:V} {u:Upd}
 (hs:(if z.all aN then iW h new ⟨z.length,true,[z.map .lit]⟩ (.ptr new 0 0 1) else none)=some (v,u)):fC P o a μ h w v u:=by
 split at hs
 ·rename_i hall
  obtain ⟨hn,h0,hr⟩:=mw hs
  cases hr
  obtain ⟨i,zv,hi,hzv,hcs,hzr⟩:=nk hz
  dsimp only at h0
  have hlen:zv.cells.size=(z.map V.lit).length:=by rw [List.length_map, ←hcs];simp
  have:=a0p H (new:=new) hn (cs:=z.map .lit) (arr:=zv.cells) (t:=t) (by simpa using h0) hlen
   (fun v hv=>by obtain ⟨y,hy,rfl⟩:=List.mem_map.1 hv;exact List.all_eq_true.1 hall y hy)
   (fun j v hj=>by
    rw [List.getElem?_map] at hj
    cases hy:z[j]? with
    |none=>rw [hy] at hj;cases hj
    |some y=>
     rw [hy] at hj;cases hj
     have:zv.cells[j]? =some y:=by rw [←Array.getElem?_toList,hcs];exact hy
     simp only [Array.getD_eq_getD_getElem?,this,Option.getD_some]
     exact .lit y)
  simp only [List.length_map] at this
  refine ⟨_,_,_,.inl ?_,this.1,this.2.1,this.2.2⟩
  simp [execOp,ho,Instr.alloc,hzr,newVar,newRow,tD]
 ·cases hs
theorem b07 [Frame] (H:aE μ h w) (E:dN μ h w f a) {o:Oper} {t:TypeId} {x:Operand} {y:Opd} {s:Nat} (ho:o.op= .box t x) (hx:aI x=some y) {new:Nat} {v:V} {u:Upd}
 (hs:(if (y.ev f).cells.length=s∧(y.ev f).cells.all V.cell then iW h new ⟨s,true,[(y.ev f).cells]⟩ (.ptr new 0 0 1) else none)=some (v,u)):fC P o a μ h w v u:=by
 split at hs
 ·rename_i hc
  obtain ⟨hl,hall⟩:=hc
  subst hl
  obtain ⟨hn,h0,hr⟩:=mw hs
  cases hr
  dsimp only at h0
  have hv:=aS E hx
  obtain ⟨h1,h2⟩:=hv.cellsRel hall
  have:=a0p H (new:=new) hn (cs:=(y.ev f).cells) (arr:=(a.eval x).cells) (t:=t) h0 h1 (fun v hv=>List.all_eq_true.1 hall v hv) h2
  refine ⟨_,_,_,.inl ?_,this.1,this.2.1,this.2.2⟩
  simp [execOp,ho,Instr.box,newVar,newRow,tD]
 ·cases hs
structure a6c [Frame] (μ:Mu) (h:ak) (w:World) (row:List V) (c off:Nat):Prop where
 cell: ∀j v,row[j]? =some v→ ∃y,w.cell? ⟨c,off+j,none⟩=some y∧aj μ h w v y
 one: ∀v∈row,v.cell=true
theorem ya [Frame] (H:aE μ h w) {b i:Nat} {k:Blk} {row:List V} (hb:h b=some k) (hi:k.rows[i]? =some row):
 ∃c,μ b=some c∧a6c μ h w row c (i*k.esz)∧row.length=k.esz∧0<k.esz:=by
 have hmem:=List.mem_of_getElem? hi
 have hrow:=H.rows b k hb row hmem
 rcases H.blk b k hb with ⟨h1,_,_⟩|⟨h0,c,arr,t,lo,hi',hm,hh,hf,hl,hv⟩
 ·rw [h1] at hmem;cases hmem
 ·refine ⟨c,hm,⟨fun j v hj=> ?_,fun v hv=>(hrow.2 v hv).1⟩,hrow.1,h0⟩
  have hjl:j<row.length:=by
   rcases Nat.lt_or_ge j row.length with hlt|hge
   ·exact hlt
   ·rw [List.getElem?_eq_none hge] at hj;cases hj
  have hil:i<k.rows.length:=by
   rcases Nat.lt_or_ge i k.rows.length with hlt|hge
   ·exact hlt
   ·rw [List.getElem?_eq_none hge] at hi;cases hi
  have hlt:i*k.esz+j<arr.size:=by
   have h2:(i+1)*k.esz≤k.rows.length*k.esz:=Nat.mul_le_mul_right _ hil
   rw [Nat.add_mul,Nat.one_mul] at h2
   omega
  refine ⟨arr.getD (i*k.esz+j) undef, ?_,hv i row j v hi hj⟩
  simp [World.cell?,hh,hlt,Array.getElem?_eq_getElem hlt]
theorem Vl [Frame] {row:List V} {c off:Nat} {g:Option Nat} {t:TypeId} {o:Nat} {v:V} (R:a6c μ h w row c off) (hg:Jh P t=some g) (hp:part g row o=some v):
 ∃x,(loadVar t ⟨c,off+o,none⟩).run P w= .ok x w∧aj μ h w v x:=by
 obtain ⟨hr,hn⟩:=WW hg w
 cases g with
 |none=>
  simp only [part] at hp
  obtain ⟨y,hy,hv⟩:=R.cell o v hp
  refine ⟨y, ?_,hv⟩
  simp [loadVar,hr,hy]
 |some n=>
  simp only [part] at hp
  split at hp
  ·rename_i hle
   cases hp
   have hsz:=dg (hn n rfl) w
   let fn:Nat→Value:=fun j=>(w.cell? ⟨c,off+o+j,none⟩).getD undef
   have hcell: ∀j,j<n→w.cell? ⟨c,off+o+j,none⟩=some (fn j):=by
    intro j hj
    obtain ⟨y,hy,_⟩:=R.cell (o+j) row[o+j] (List.getElem?_eq_getElem (by omega))
    show _=some ((w.cell? ⟨c,off+o+j,none⟩).getD undef)
    rw [show off+o+j=off+(o+j) by omega,hy];rfl
   refine ⟨.agg ((Array.range n).map fn), ?_, ?_⟩
   ·simp [loadVar,hr,hsz,mi hcell]
   ·refine .agg _ _ (by simp;omega) (fun v hv=>R.one v (List.mem_of_mem_drop (List.mem_of_mem_take hv))) (fun i v hi=> ?_)
    rw [List.getElem?_take] at hi
    split at hi
    ·rename_i hin
     rw [List.getElem?_drop] at hi
     obtain ⟨y,hy,hv⟩:=R.cell (o+i) v hi
     have he:fn i=y:=by
      show (w.cell? ⟨c,off+o+i,none⟩).getD undef=y
      rw [show off+o+i=off+(o+i) by omega,hy];rfl
     have:((Array.range n).map fn).getD i undef=y:=by
      simp [hin,he]
     rw [this];exact hv
    ·cases hi
  ·cases hp
theorem Vh [Frame] {row:List V} {o:Nat} {x:Value} (hv:aj μ h w (.iptr row o) x): ∃c off,x= .pointer (some ⟨c,off+o,none⟩)∧a6c μ h w row c off:=by
 cases hv with
 |iptr _ _ c off ys hc hs hrow hcell hv=>
  refine ⟨c,off,rfl,⟨fun j v hj=> ?_,fun v hv=>(hrow v hv).2⟩⟩
  have hjl:j<row.length:=by
   rcases Nat.lt_or_ge j row.length with hlt|hge
   ·exact hlt
   ·rw [List.getElem?_eq_none hge] at hj;cases hj
  exact ⟨ys j,hcell j hjl,hv j v hj⟩
theorem YR [Frame] {b i o n:Nat} {x:Value} {k:Blk} (hv:aj μ h w (.ptr b i o n) x) (hb:h b=some k) (hn:k.rows.length=n) (hi:i<n) (h0:0<k.esz):
 ∃c,μ b=some c∧x= .pointer (some ⟨c,i*k.esz+o,none⟩):=by
 cases hv with
 |ptr _ _ _ _ _ k' hk' hn' hx hp=>
  rw [hb] at hk';cases hk'
  exact hp (by omega) hn hi
theorem QF [Frame] (H:aE μ h w) {av v:V} {x:Value} {g:Option Nat} {t:TypeId} (hx:aj μ h w av x) (hg:Jh P t=some g) (hr:sn g h av=some v):
 ∃c off y,x= .pointer (some ⟨c,off,none⟩)∧(loadVar t ⟨c,off,none⟩).run P w= .ok y w∧aj μ h w v y:=by
 cases av with
 |ptr b i o n=>
  simp only [sn] at hr
  cases hb:h b with
  |none=>rw [hb] at hr;cases hr
  |some k=>
   rw [hb] at hr
   dsimp only at hr
   split at hr
   ·rename_i hn
    cases hi:k.rows[i]? with
    |none=>rw [hi] at hr;cases hr
    |some row=>
     rw [hi] at hr
     obtain ⟨c,hm,R,hl,h0⟩:=ya H hb hi
     have hil:i<n:=by
      rw [←hn]
      rcases Nat.lt_or_ge i k.rows.length with hlt|hge
      ·exact hlt
      ·rw [List.getElem?_eq_none hge] at hi;cases hi
     obtain ⟨c',hm',rfl⟩:=YR hx hb hn hil h0
     rw [hm] at hm';cases hm'
     obtain ⟨y,hy,hv⟩:=Vl R hg hr
     exact ⟨c,i*k.esz+o,y,rfl,hy,hv⟩
   ·cases hr
 |iptr row o=>
  simp only [sn] at hr
  obtain ⟨c,off,rfl,R⟩:=Vh hx
  obtain ⟨y,hy,hv⟩:=Vl R hg hr
  exact ⟨c,off+o,y,rfl,hy,hv⟩
 |_=>simp [sn] at hr
theorem a3s [Frame] (H:aE μ h w) (E:dN μ h w f a) {o:Oper} {t:TypeId} {x:Operand} {y:Opd} {g:Option Nat} (ho:o.op= .load t x) (hx:aI x=some y) (hg:Jh P t=some g) {v:V}
 (hs:sn g h (y.ev f)=some v):fC P o a μ h w v []:=by
 obtain ⟨c,off,y',hx',hy,hv⟩:=QF H (aS E hx) hg hs
 exact .quiet H (by simp [execOp,ho,Instr.loadAt,Instr.sureAddr,hx',hy]) hv
theorem jc.sub [Frame] {μ μ':Mu} {w:World} (hs: ∀b c,μ' b=some c→μ b=some c):jc μ w μ' w:=
 ⟨rfl,rfl,rfl,Nat.le_refl _,(fun c _ h=>⟨rfl,(fun b hb=>h.1 b (hs b c hb)),h.2⟩),fun _ _=>rfl⟩
theorem Ge [Frame] (H:aE μ h w) {b s n:Nat} {k:Blk} {x:Value} (hb:h b=some k) (hop:k.op=false) (h0:0<k.esz) (hn:s+n=k.rows.length) (hv:aj μ h w (.sl b s n) x)
 {μ':Mu} (h':ak) (hm:μ' b=none) (hsub: ∀b c,μ' b=some c→μ b=some c):aj μ' h' w (.imm k.esz (k.rows.drop s)) x:=by
 cases hv with
 |sl _ _ _ _ k' hk' hn' hx hp=>
  rw [hb] at hk';cases hk'
  obtain ⟨ad,cap,rfl,hok⟩:=hp (by omega) hn
  have hlen:(k.rows.drop s).length=n:=by simp;omega
  by_cases hz:n=0
  ·have:k.rows.drop s=[]:=List.eq_nil_of_length_eq_zero (by omega)
   rw [this,hz]
   exact .imm0 _ _ _ (by omega)
  ·rcases hok with ⟨h1,_⟩|⟨c,hc,rfl,hcap,hnc⟩
   ·exact absurd h1 hz
   ·have hst:kX μ' c:=by
     refine ⟨fun b' hb'=> ?_,H.frame _ _ hc⟩
     have h1:=hsub b' c hb'
     have h2:=H.inj _ _ _ h1 hc
     rw [h2,hm] at hb';cases hb'
    rcases H.blk b k hb with ⟨h1,_,_⟩|⟨_,c',arr,t,lo,hi,hm',hh,hf,hl,hv⟩
    ·rw [h1] at hn;simp at hn;omega
    ·rw [hc] at hm';cases hm'
     have hrw:=H.rows b k hb
     rw [←hlen]
     have hsz: ∀i j,i<n→j<k.esz→s*k.esz+(i*k.esz+j)<arr.size:=by
      intro i j hi hj
      have h2:(s+i+1)*k.esz≤k.rows.length*k.esz:=Nat.mul_le_mul_right _ (by omega)
      rw [Nat.add_mul,Nat.add_mul,Nat.one_mul] at h2
      omega
     refine .imm k.esz (k.rows.drop s) c (s*k.esz) cap (fun i j=>arr.getD (s*k.esz+(i*k.esz+j)) undef) h0 (by intro e;rw [e] at hlen;simp at hlen;omega) (by omega) (H.lt hc) hst
      (fun row hrow=>⟨(hrw row (List.mem_of_mem_drop hrow)).1,fun v hv=>⟨((hrw row (List.mem_of_mem_drop hrow)).2 v hv).2 hop,((hrw row (List.mem_of_mem_drop hrow)).2 v hv).1⟩⟩)
      (fun i j hi hj=> ?_) (fun i row j v hi hj=> ?_)
     ·have:=hsz i j (by omega) hj
      simp [World.cell?,hh,this,Array.getElem?_eq_getElem this]
     ·rw [List.getElem?_drop] at hi
      have hmem:=List.mem_of_getElem? hi
      have:=hv (s+i) row j v hi hj
      rw [Nat.add_mul,Nat.add_assoc] at this
      exact this.closed h' (jc.sub hsub) (((hrw row hmem).2 v (List.mem_of_getElem? hj)).2 hop)
theorem Mb [Frame] (H:aE μ h w) {v v':V} {bs:List Nat} {x:Value} (hs:kP h v=some (v',bs)) (hv:aj μ h w v x)
 {μ':Mu} (h':ak) (hm: ∀b∈bs,μ' b=none) (hsub: ∀b c,μ' b=some c→μ b=some c):aj μ' h' w v' x∧v'.cl=true∧v'.cell=true∧ ∀b∈bs, ∃k,h b=some k:=by
 have other: ∀v:V,(if v.cl&&v.cell then some (v,([]:List Nat)) else none)=some (v',bs)→aj μ h w v x→aj μ' h' w v' x∧v'.cl=true∧v'.cell=true∧ ∀b∈bs, ∃k,h b=some k:=by
  intro v h1 h2
  split at h1
  ·rename_i hc
   cases h1
   simp only [Bool.and_eq_true] at hc
   exact ⟨h2.closed h' (jc.sub hsub) hc.1,hc.1,hc.2,fun b hb=>by cases hb⟩
  ·cases h1
 cases v with
 |sl b s n=>
  simp only [kP] at hs
  cases hb:h b with
  |none=>rw [hb] at hs;cases hs
  |some k=>
   rw [hb] at hs
   dsimp only at hs
   split at hs
   ·rename_i hc
    cases hs
    exact ⟨Ge H hb hc.1 hc.2.1 hc.2.2 hv h' (hm b (by simp)) hsub,rfl,rfl,fun b' hb'=>by simp at hb';subst hb';exact ⟨k,hb⟩⟩
   ·cases hs
 |lit y=>exact other (.lit y) hs hv
 |agg cs=>exact other (.agg cs) hs hv
 |tup cs=>exact other (.tup cs) hs hv
 |ptr b i o n=>exact other (.ptr b i o n) hs hv
 |imm e r=>exact other (.imm e r) hs hv
 |iptr r o=>exact other (.iptr r o) hs hv
 |fn f cs=>exact other (.fn f cs) hs hv
 |undef=>exact other .undef hs hv
theorem Ba [Frame] (H:aE μ h w) {μ':Mu} (h':ak) (hsub: ∀b c,μ' b=some c→μ b=some c): ∀{vs vs':List V} {bs:List Nat} (g:Nat→Value),iw h vs=some (vs',bs)→
 (∀j v,vs[j]? =some v→aj μ h w v (g j))→(∀b∈bs,μ' b=none)→
 vs'.length=vs.length∧(∀j v,vs'[j]? =some v→aj μ' h' w v (g j))∧(∀v∈vs',v.cl=true∧v.cell=true)∧ ∀b∈bs, ∃k,h b=some k
 |[],vs',bs,g,hs,hv,hm=>by
  simp [iw] at hs
  obtain ⟨rfl,rfl⟩:=hs
  exact ⟨rfl,fun j v hj=>by simp at hj,fun v hv=>by simp at hv,fun b hb=>by simp at hb⟩
 |v::vs,vs',bs,g,hs,hv,hm=>by
  simp only [iw] at hs
  split at hs
  ·rename_i v1 bs1 r1 bs2 h1 h2
   cases hs
   obtain ⟨a1,a2,a3,a4⟩:=Mb H h1 (hv 0 v rfl) h' (fun b hb=>hm b (by simp [hb])) hsub
   obtain ⟨b1,b2,b3,b4⟩:=Ba H h' hsub (fun j=>g (j+1)) h2 (fun j u hj=>hv (j+1) u (by simpa using hj)) (fun b hb=>hm b (by simp [hb]))
   refine ⟨by simp [b1],fun j u hj=> ?_,fun u hu=> ?_,fun b hb=> ?_⟩
   ·cases j with
    |zero=>simp at hj;subst hj;exact a1.cz
    |succ j=>exact b2 j u (by simpa using hj)
   ·rcases List.mem_cons.1 hu with rfl|hu
    ·exact ⟨ZV a2,EJ a3⟩
    ·exact b3 u hu
   ·rcases List.mem_append.1 hb with hb|hb
    ·exact a4 b hb
    ·exact b4 b hb
  ·cases hs
theorem TS.trans {μ1 μ2:Mu} {h1 h2:ak} {w1 w2:World} (a:TS μ h w μ1 h1 w1) (b:TS μ1 h1 w1 μ2 h2 w2):TS μ h w μ2 h2 w2:=by
 intro b0 k hk
 obtain ⟨k1,hk1,r1⟩:=a b0 k hk
 obtain ⟨k2,hk2,r2⟩:=b b0 k1 hk1
 refine ⟨k2,hk2, ?_⟩
 rcases r2 with r2|⟨e2,l2⟩|⟨e2,l2,m2,s2⟩
 ·exact .inl r2
 ·rcases r1 with r1|⟨e1,l1⟩|⟨e1,l1,m1,s1⟩
  ·exact .inl (e2.trans r1)
  ·exact .inr (.inl ⟨e2.trans e1,by omega⟩)
  ·exact .inr (.inl ⟨e2.trans e1,by omega⟩)
 ·rcases r1 with r1|⟨e1,l1⟩|⟨e1,l1,m1,s1⟩
  ·exact .inl (e2.trans r1)
  ·exact .inr (.inl ⟨e2.trans e1,by omega⟩)
  ·exact .inr (.inr ⟨e2.trans e1,l2.trans l1,m2.trans m1,fun c hc=>(s2 c (by rw [m1];exact hc)).trans (s1 c hc)⟩)
theorem Chg.trans [Frame] {μ1 μ2:Mu} {h1 h2:ak} {w1 w2:World} (a:Chg μ h w μ1 h1 w1) (b:Chg μ1 h1 w1 μ2 h2 w2):Chg μ h w μ2 h2 w2:=⟨a.ev.trans b.ev,a.refs.trans b.refs⟩
theorem a5M [Frame] {μ:Mu} {h:ak} {w:World}: ∀(bs:List Nat),(∀b∈bs, ∃k,h b=some k)→aE μ h w→
 ∃μ',aE μ' (dU h (eO bs)) w∧Chg μ h w μ' (dU h (eO bs)) w∧(∀b∈bs,μ' b=none)∧(∀b c,μ' b=some c→μ b=some c)∧ ∀b,b∉bs→μ' b=μ b∧dU h (eO bs) b=h b:=by
 intro bs
 induction bs generalizing μ h with
 |nil=>exact fun _ H=>⟨μ,H,Chg.refl _ _ _,(fun b hb=>by simp at hb),(fun b c h=>h),(fun b _=>⟨rfl,rfl⟩)⟩
 |cons b bs ih=>
  intro hd H
  obtain ⟨k,hk⟩:=hd b (by simp)
  obtain ⟨H1,C1⟩:=H.kill hk
  obtain ⟨μ',H2,C2,hm,hsub,hoth⟩:=ih (μ:=bO μ b none) (h:=bj h b is) (fun b' hb'=>by
   by_cases e:b'=b
   ·exact ⟨is,by simp [bj,e]⟩
   ·obtain ⟨k',hk'⟩:=hd b' (by simp [hb']);exact ⟨k',by simp [bj,e,hk']⟩) H1
  have hsub': ∀b' c,bO μ b none b'=some c→μ b'=some c:=by
   intro b' c h1
   unfold bO at h1
   split at h1
   ·cases h1
   ·exact h1
  refine ⟨μ',H2,C1.trans C2,fun b' hb'=> ?_,fun b' c h1=>hsub' b' c (hsub b' c h1),fun b' hb'=> ?_⟩
  ·rcases List.mem_cons.1 hb' with rfl|hb'
   ·cases hmu:μ' b' with
    |none=>rfl
    |some c=>have:=hsub b' c hmu;simp [bO] at this
   ·exact hm b' hb'
  ·simp only [List.mem_cons,not_or] at hb'
   obtain ⟨h1,h2⟩:=hoth b' hb'.2
   exact ⟨by rw [h1];simp [bO,hb'.1],by show dU (bj h b is) (eO bs) b'=h b';rw [h2];simp [bj,hb'.1]⟩
theorem ld (h:ak) (u v:Upd):dU h (u++v)=dU (dU h u) v:=by
 induction u generalizing h with
 |nil=>rfl
 |cons x u ih=>exact ih _
end
end Go.AI
