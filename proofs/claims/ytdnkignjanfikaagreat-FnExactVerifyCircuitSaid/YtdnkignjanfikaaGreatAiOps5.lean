/- The operations of the abstract machine and the model's. Fifth part: slices that are made, cut, measured; texts and bytes; structs compared. -/
import Derived.Test.YtdnkignjanfikaaGreatAiOps4
import Derived.Laws.BytesString
set_option linter.unusedVariables false
set_option linter.unusedSimpArgs false
namespace Go.AI
section
variable {P:Program} {μ:Mu} {h:aZ} {w:World} {f:Nat->V} {a:Act}
theorem La [Frame] (H:bD μ h w) {w':World} (g:yD w w') {new:Nat} (hn:h new=none) {esz:Nat} {rows:List (List V)} {arr:Array Value} {t:TypeId} {lo hi cap:Nat}
 (hh:w'.heap[w.heap.size]? =some (.cells arr t (lo,hi))) (hf:Fz arr.size lo hi) (h0:0<esz) (hcap:rows.length<=cap) (hsz:cap*esz<=arr.size)
 (hr: ∀row∈rows,row.length=esz/\ ∀v∈row,v.cell=true/\v.cl=true)
 (hv: ∀i row j v,rows[i]? =some row->row[j]? =some v->aX μ h w v (arr.getD (i*esz+j) undef)):
 ∃μ',bD μ' (bV h new ⟨esz,false,rows⟩) w'/\Chg μ h w μ' (bV h new ⟨esz,false,rows⟩) w'/\
  aX μ' (bV h new ⟨esz,false,rows⟩) w' (.sl new 0 rows.length) (.slice (some ⟨w.heap.size,0,none⟩) rows.length cap):=by
 have hle:rows.length*esz<=arr.size:=ed (bt _ hcap) hsz
 have hnew:=H.new g (b:=new) (c:=w.heap.size) (k:=⟨esz,false,rows⟩) hn (aw _) hh hf h0 hle
  (fun row hrow=>⟨(hr row hrow).1,fun v hv=>⟨((hr row hrow).2 v hv).1,fun _=>((hr row hrow).2 v hv).2⟩⟩) hv
 refine ⟨_,hnew.1,hnew.2,.sl new 0 rows.length _ ⟨esz,false,rows⟩ (by simp [bV]) (.inr (by simp)) ⟨_,_,rfl⟩ (fun _ _=>⟨_,_,rfl,.inr ⟨w.heap.size,by simp [cE],by simp, ?_,hcap⟩⟩)⟩
 simp only [cI]
 unfold bsize
 rw [hh]
 exact hsz
theorem a3h (s:ByteArray) (j:Nat) (b:UInt8) (hj:s.data.toList[j]? =some b):(s.data.map fun b=>Value.int .u8 b.toNat)[j]? =some (.int .u8 b.toNat):=by
 rw [Array.getElem?_toList] at hj
 simp [hj]
theorem a4g [Frame] (H:bD μ h w) (E:gj μ h w f a) {o:Oper} {s d e:TypeId} {x:Operand} {x':Opd} (hop:o.op= .convert s d x) (hx:bC x=some x') (h1:P.underlying s=some .string) (h2:P.underlying d=some (.slice e)) (h3:P.underlying e=some (.int .u8))
 {C:cg} {ow:FuncId->List Nat} {new:Nat} {v:V} {u:Upd} (hs:aN C ow (.toBytes x') (Opd.ev f) h new=some (v,u)):iC P o a μ h w v u:=by
 have hvx:=bP E hx
 simp only [aN] at hs
 split at hs
 ·rename_i b hb
  split at hs
  ·rename_i hle
   obtain ⟨hn,h0,hr⟩:=rI hs
   cases hr
   rw [hb] at hvx
   have hX:=de hvx
   have hq:(Question.appendCap b.size 0 e).forced=false:=rfl
   let cap:=(Question.appendCap b.size 0 e).cut (w.tape w.drawn (Question.appendCap b.size 0 e))
   have hcap:b.size<=cap:=by
    show b.size<=Question.cut (.appendCap b.size 0 e) _
    simp only [Question.cut];omega
   let arr:Array Value:=(b.data.map fun b=>Value.int .u8 b.toNat)++Array.replicate (cap-b.size) (.int .u8 0)
   have hasz:arr.size=cap:=by simp [arr];have:b.data.size=b.size:=rfl;omega
   let w1:World:={ w with drawn:=w.drawn+1 }
   let w2:World:=mV w1 (.cells arr e (0,0))
   let w3:World:=hO w2 w.heap.size arr e (arr.size,arr.size+1)
   have hsz2:w.heap.size<w2.heap.size:=by show w.heap.size<(w.heap.push _).size;rw [Array.size_push];omega
   have hg:yD w w3:=by
    refine ⟨rfl,rfl,rfl,by show _<=(hO w2 _ _ _ _).heap.size;rw [vD];omega,fun c hc=> ?_,mS _⟩
    show (hO w2 _ _ _ _).heap[c]? =_
    rw [Cp (by omega)]
    show (w.heap.push _)[c]? =_
    rw [iO,aa (by omega)]
   have hrun:(execOp a.eval o).run P w= .ok (.value (.slice (some ⟨w.heap.size,0,none⟩) b.size cap)) w3:=by
    have hfz:(markStringish ⟨w.heap.size,0,none⟩).run P w2= .ok () w3:=by
     have hat:w2.heap[w.heap.size]? =some (.cells arr e (0,0)):=qf w1 _
     have hsh:w2.shape? w.heap.size=some (e,arr.size):=by simp only [World.shape?];rw [hat]
     simp only [markStringish,Sem.run_bind,run_shape,Result.andThen_ok,hsh,run_freeze]
     congr 1
     show World.freeze w2 ⟨w.heap.size,arr.size,none⟩ 1=hO w2 w.heap.size arr e (arr.size,arr.size+1)
     unfold World.freeze hO
     rw [aa (by decide)]
     congr 1
     apply fh
     intro k
     rw [dR,cx]
     by_cases ek:w.heap.size=k
     ·subst ek;rw [ae rfl,ae rfl,hat,ae hsz2];rfl
     ·simp [ek]
    simp only [execOp,hop,hX,convert,Sem.run_bind,run_underlying h1,run_underlying h2,run_underlying h3,Result.andThen_ok,Conv.stringToBytes,run_choose,hq,bA,if_false,newRow,run_newObj,Sem.run_pure,hfz]
    change ((Sem.run P (markStringish ⟨w.heap.size,0,none⟩) w2).andThen _).andThen _=_
    rw [hfz]
    rfl
   obtain ⟨μ',q1,q2,q3⟩:=La H hg (new:=new) hn (esz:=1) (rows:=b.data.toList.map fun b=>[.lit (.int .u8 b.toNat)]) (arr:=arr) (t:=e) (lo:=arr.size) (hi:=arr.size+1) (cap:=cap)
    (rF hsz2) (.inr (aw _)) (by decide) (by rw [aM];exact hcap) (by omega)
    (fun row hrow=>by
     obtain ⟨y,hy,rfl⟩:=bu.1 hrow
     exact ⟨rfl,fun v hv=>by simp at hv;subst hv;exact ⟨rfl,rfl⟩⟩)
    (fun i row j v hi hj=>by
     rw [aV] at hi
     cases hb':b.data.toList[i]? with
     |none=>rw [hb'] at hi;cases hi
     |some y=>
      rw [hb'] at hi;cases hi
      cases j with
      |zero=>
       simp at hj;subst hj
       have hlt:=cS hb'
       have:arr[i]? =some (.int .u8 y.toNat):=by
        show ((b.data.map fun b=>Value.int .u8 b.toNat)++Array.replicate (cap-b.size) (.int .u8 0))[i]? =_
        rw [pu,ae (by simpa using hlt)]
        exact a3h b i y hb'
       simp only [qE,cQ,Array.getD_eq_getD_getElem?,this,du]
       exact .lit _
      |succ j=>simp at hj)
   have hbl:(b.data.toList.map fun b=>[V.lit (.int .u8 b.toNat)]).length=b.size:=by simp
   rw [hbl] at q3
   exact ⟨_,_,_,.inl hrun,q1,q2,q3⟩
  ·cases hs
 ·cases hs
structure c3w [Frame] (μ:Mu) (h:aZ) (w:World) (rows:List (List V)) (esz c off:Nat):Prop where
 cell: ∀i row j v,rows[i]? =some row->row[j]? =some v-> ∃y,w.cell? ⟨c,off+(i*esz+j),none⟩=some y/\aX μ h w v y
 row: ∀row∈rows,row.length=esz/\ ∀v∈row,v.cell=true/\v.cl=true
theorem Mk [Frame] (H:bD μ h w) {v:V} {x:Value} {esz:Nat} {rows:List (List V)} (h0:0<esz) (hr:eu h esz v=some rows) (hv:aX μ h w v x) (hns: ∀s,x≠ .string s):
 ∃ad cap,x= .slice ad rows.length cap/\(rows=[]\/ ∃c off,ad=some ⟨c,off,none⟩/\c3w μ h w rows esz c off/\c<w.heap.size/\(∀b s n,v= .sl b s n->μ b=some c)):=by
 cases v with
 |sl b s n=>
  simp only [eu] at hr
  cases hb:h b with
  |none=>rw [hb] at hr;cases hr
  |some k=>
   rw [hb] at hr
   dsimp only at hr
   split at hr
   ·rename_i hc
    obtain ⟨c1,c2,c3,c4⟩:=hc
    cases hr
    have hlen:(k.rows.drop s).length=n:=by simp;omega
    cases hv with
    |sl _ _ _ _ k' hk' hn' hx hp=>
     rw [hb] at hk';cases hk'
     obtain ⟨ad,cap,rfl,hok⟩:=hp (by omega) c4
     refine ⟨ad,cap,by rw [hlen], ?_⟩
     by_cases hz:n=0
     ·exact .inl (bU (by omega))
     ·rcases hok with ⟨g1,_⟩|⟨c,hm,rfl,hcap,hnc⟩
      ·exact absurd g1 hz
      ·refine .inr ⟨c,s*k.esz,rfl,⟨fun i row j v hi hj=> ?_,fun row hrow=> ?_⟩,H.lt hm,(fun b' s' n' e=>by cases e;exact hm)⟩
       ·rw [gz] at hi
        obtain ⟨c',hm',R,_,_⟩:=K2 H hb hi c2
        rw [hm] at hm';cases hm'
        obtain ⟨y,hy,hv⟩:=R.cell j v hj
        refine ⟨y, ?_,hv⟩
        rw [<-c3, <-hy,Nat.add_mul,fA]
       ·have:=H.rows b k hb row (cc hrow)
        exact ⟨by rw [<-c3];exact this.1 c2,fun v hv=>⟨(this.2 v hv).1,(this.2 v hv).2 c1⟩⟩
   ·cases hr
 |imm e rows'=>
  simp only [eu] at hr
  have hrr:rows'=rows/\(e=esz\/rows=[]):=by
   split at hr
   ·rename_i he;cases hr;exact ⟨rfl,.inl he⟩
   ·split at hr
    ·rename_i he;cases hr;have:rows'=[]:=by simpa using he
     exact ⟨this,.inr rfl⟩
    ·cases hr
  obtain ⟨rfl,hrr⟩:=hrr
  cases hv with
  |emp ad=>exact ⟨ad,0,rfl,.inl rfl⟩
  |imm0 _ ad cap he=>exact ⟨ad,cap,rfl,.inl rfl⟩
  |imm _ _ c off cap ys he hr' hcp hc hs hrow hcell hv=>
   rcases hrr with rfl|hrr
   ·refine ⟨_,cap,rfl,.inr ⟨c,off,rfl,⟨fun i row j v hi hj=> ?_,fun row hrow'=>⟨(hrow row hrow').1,fun v hv=>⟨((hrow row hrow').2 v hv).2,((hrow row hrow').2 v hv).1⟩⟩⟩,hc,(fun _ _ _ e=>by cases e)⟩⟩
    refine ⟨ys i j,hcell i j (cS hi) ?_,hv i row j v hi hj⟩
    rw [<-(hrow row (an hi)).1]
    exact cS hj
   ·exact absurd hrr hr'
 |lit y=>
  have:=de hv
  subst this
  cases x with
  |slice ad m c=>
   cases ad with
   |none=>
    cases m with
    |zero=>
     cases c with
     |zero=>simp [eu] at hr;subst hr;exact ⟨none,0,rfl,.inl rfl⟩
     |succ c=>simp [eu] at hr
    |succ m=>simp [eu] at hr
   |some ad=>
    cases m with
    |zero=>simp [eu] at hr;subst hr;exact ⟨some ad,c,rfl,.inl rfl⟩
    |succ m=>simp [eu] at hr
  |string s=>exact absurd rfl (hns s)
  |_=>simp [eu] at hr
 |_=>simp [eu] at hr
theorem a7P [Frame] {v:V} {s:ByteArray} (hv:aX μ h w v (.string s)):v= .lit (.string s)\/v= .undef:=by
 cases hv with
 |lit=>exact .inl rfl
 |ptr b i o n _ k hk hn hx hp=>obtain ⟨c,off,hx⟩:=hx;cases hx
 |sl b s n _ k hk hn hx hp=>obtain ⟨c,m,hx⟩:=hx;cases hx
 |mp b _ k hk hx hm=>obtain ⟨c,hx⟩:=hx;cases hx
 |unk=>exact .inr rfl
theorem Oy: ∀{rows:List (List V)} {l:List UInt8},aN.bytesOf rows=some l->l.length=rows.length/\ ∀(i:Nat) (row:List V),rows[i]? =some row-> ∃n:Int,row=[.lit (.int .u8 n)]/\l[i]? =some (UInt8.ofNat n.toNat)
 |[],l,hl=>by simp [aN.bytesOf] at hl;subst hl;exact ⟨rfl,(fun i row h=>by simp at h)⟩
 |row::rows,l,hl=>by
  unfold aN.bytesOf at hl
  split at hl
  ·rename_i heq;cases heq
  ·rename_i n r heq
   cases heq
   split at hl
   ·split at hl
    ·rename_i l' hl'
     cases hl
     obtain ⟨g1,g2⟩:=Oy hl'
     refine ⟨by simp [g1],fun i row hb=> ?_⟩
     cases i with
     |zero=>simp at hb;subst hb;exact ⟨n,rfl,rfl⟩
     |succ i=>exact g2 i row (by simpa using hb)
    ·cases hl
   ·cases hl
  ·cases hl
theorem foldl_push_bytes (ns:List Int): ∀(s:ByteArray),(ns.foldl (fun r n=>r.push (UInt8.ofNat n.toNat)) s).data.toList=s.data.toList++ns.map (fun n=>UInt8.ofNat n.toNat):=by
 induction ns with
 |nil=>intro s;simp
 |cons n ns ih=>intro s;rw [py,ih];simp [ByteArray.push]
theorem b1W [Frame] (H:bD μ h w) (E:gj μ h w f a) {o:Oper} {s d e:TypeId} {x:Operand} {x':Opd} (hop:o.op= .convert s d x) (hx:bC x=some x') (h1:P.underlying s=some (.slice e)) (h2:P.underlying d=some .string) (h3:P.underlying e=some (.int .u8))
 {C:cg} {ow:FuncId->List Nat} {new:Nat} {v:V} {u:Upd} (hs:aN C ow (.toStr x') (Opd.ev f) h new=some (v,u)):iC P o a μ h w v u:=by
 have hvx:=bP E hx
 simp only [aN] at hs
 split at hs
 ·cases hs
 rename_i hnstr
 split at hs
 ·rename_i rows hrows
  split at hs
  ·rename_i l hl
   cases hs
   obtain ⟨g1,g2⟩:=Oy hl
   have hns: ∀s,a.eval x≠ .string s:=by
    intro s e
    rw [e] at hvx
    rcases a7P hvx with h5|h5
    ·rw [h5] at hnstr;exact hnstr rfl
    ·rw [h5] at hrows;simp [eu] at hrows
   obtain ⟨ad,cap,hX,hat⟩:=Mk H (by decide) hrows hvx hns
   refine .quiet H (x:= .string ⟨l.toArray⟩) ?_ (.lit _)
   rcases hat with rfl|⟨c,off,rfl,R,_,_⟩
   ·have:l=[]:=bU (by simpa using g1)
    subst this
    cases ad with
    |none=>simp [execOp,hop,convert,run_underlying h1,run_underlying h2,run_underlying h3,hX,Conv.bytesToString];rfl
    |some ad=>
     simp [execOp,hop,convert,run_underlying h1,run_underlying h2,run_underlying h3,hX]
     rw [run_bytesToString w ad 0 cap [] (by simp [loadCells,loadCellsFrom])]
     rfl
   ·let num:Nat->Int:=fun i=>match rows[i]? with
     |some [.lit (.int .u8 n)]=>n
     |_=>0
    have hnum: ∀i,i<rows.length-> ∃n:Int,rows[i]? =some [.lit (.int .u8 n)]/\num i=n/\l[i]? =some (UInt8.ofNat n.toNat):=by
     intro i hi
     obtain ⟨n,hn,hln⟩:=g2 i rows[i] (aq hi)
     have h4:rows[i]? =some [.lit (.int .u8 n)]:=by rw [aq hi,hn]
     exact ⟨n,h4,by simp only [num,h4],hln⟩
    have hcell: ∀j,j<rows.length->w.cell? ⟨c,off+j,none⟩=some (.int .u8 (num j)):=by
     intro j hj
     obtain ⟨n,hn,hnn,_⟩:=hnum j hj
     obtain ⟨y,hy,hv⟩:=R.cell j _ 0 (.lit (.int .u8 n)) hn rfl
     rw [de hv] at hy
     rw [hnn, <-hy]
     simp
    have hload:=sB (P:=P) hcell
    have hmap:(Array.range rows.length).map (fun j=>Value.int .u8 (num j))=(((List.range rows.length).map num).map (Value.int .u8)).toArray:=by
     apply eO;simp
    rw [hmap] at hload
    have hrun:=run_bytesToString (P:=P) w ⟨c,off,none⟩ rows.length cap ((List.range rows.length).map num) hload
    have hres:((List.range rows.length).map num).foldl (fun r n=>r.push (UInt8.ofNat n.toNat)) ByteArray.empty=⟨l.toArray⟩:=by
     have h5:=foldl_push_bytes ((List.range rows.length).map num) ByteArray.empty
     have h6:((List.range rows.length).map num).map (fun n=>UInt8.ofNat n.toNat)=l:=by
      apply ny
      intro i
      by_cases hi:i<rows.length
      ·obtain ⟨n,hn,hnn,hln⟩:=hnum i hi
       simp [hi,hnn,hln]
      ·have h7:l[i]? =none:=bF (by omega)
       simp [hi,h7]
     rw [h6] at h5
     generalize ((List.range rows.length).map num).foldl (fun r n=>r.push (UInt8.ofNat n.toNat)) ByteArray.empty=B at h5
     cases B with
     |mk data=>
      congr 1
      apply eO
      simpa using h5
    simp [execOp,hop,convert,run_underlying h1,run_underlying h2,run_underlying h3,hX]
    rw [hrun,hres]
    rfl
  ·cases hs
 ·cases hs
theorem Zd [Frame] (H:bD μ h w) (E:gj μ h w f a) {o:Oper} {s d e0 e:TypeId} {x:Operand} {x':Opd} (hop:o.op= .convert s d x) (hx:bC x=some x') (h1:P.underlying s=some (.slice e0)) (h2:P.underlying d=some (.slice e)) (h3:P.underlying e=some (.int .u8)) (hsd:(s==d)=true)
 {C:cg} {ow:FuncId->List Nat} {new:Nat} {v:V} {u:Upd} (hs:aN C ow (.bytesOwn x') (Opd.ev f) h new=some (v,u)):iC P o a μ h w v u:=by
 have hvx:=bP E hx
 simp only [aN] at hs
 split at hs
 ·rename_i b i n hb
  split at hs
  ·rename_i k hk
   split at hs
   ·rename_i hc
    cases hs
    obtain ⟨c1,c2,c3,c4⟩:=hc
    rw [hb] at hvx
    generalize hX:a.eval x=X at hvx
    cases hvx with
    |sl _ _ _ _ k' hk' hn' hx' hp=>
     rw [hk] at hk';cases hk'
     obtain ⟨ad,cap,rfl,hok⟩:=hp (by omega) c3
     rcases hok with ⟨g1,_⟩|⟨c,hm,rfl,hcap,hnc⟩
     ·omega
     ·rcases H.blk b k hk with ⟨_,_,hmn⟩|⟨h0,c',arr,t,lo,hi,hm',hh,hf,hl,hv⟩|⟨h0,_⟩
      ·rw [hm] at hmn;cases hmn
      rotate_left
      ·omega
      ·rw [hm] at hm';cases hm'
       let fz:Nat×Nat:=if lo==hi then (arr.size,arr.size+1) else (min lo arr.size,max hi (arr.size+1))
       let w3:World:=hO w c arr t fz
       have hlt:=ot hh
       have hfz:(markStringish ⟨c,i*k.esz,none⟩).run P w= .ok () w3:=by
        have hsh:w.shape? c=some (t,arr.size):=by simp only [World.shape?];rw [hh]
        simp only [markStringish,Sem.run_bind,run_shape,Result.andThen_ok,hsh,run_freeze]
        congr 1
        show World.freeze w ⟨c,arr.size,none⟩ 1=hO w c arr t fz
        unfold World.freeze hO
        rw [aa (by decide)]
        congr 1
        apply fh
        intro q
        rw [dR,cx]
        by_cases eq:c=q
        ·subst eq;rw [ae rfl,ae rfl,hh,ae hlt];rfl
        ·simp [eq]
       have hF:Fz arr.size fz.1 fz.2:=by
        show Fz arr.size (if lo==hi then (arr.size,arr.size+1) else (min lo arr.size,max hi (arr.size+1))).1 (if lo==hi then (arr.size,arr.size+1) else (min lo arr.size,max hi (arr.size+1))).2
        by_cases el:lo=hi
        ·simp [el,Fz]
        ·rcases hf with hf|hf
         ·exact absurd hf el
         ·simp [el,Fz];omega
       have hbs:bsize w c=arr.size:=by unfold bsize;rw [hh]
       have hput:=H.put (w':=w3) (c:=c) (k':=k) hk h0 (.inl hm) rfl rfl rfl (by show _<=(hO w c arr t fz).heap.size;rw [vD];exact aw _) (aw _) (fun c' _ hne=>Cp hne) (rF hlt) hF rfl hl
        (fun row hrow=>⟨(H.rows b k hk row hrow).1 h0,(H.rows b k hk row hrow).2⟩) (.inr ⟨rfl,hm,hbs.symm⟩) hv
       refine ⟨.slice (some ⟨c,i*k.esz,none⟩) n cap,w3,_,.inl ?_,hput.1,hput.2, ?_⟩
       ·simp only [execOp,hop,hX,convert,Sem.run_bind,run_underlying h1,run_underlying h2,run_underlying h3,Result.andThen_ok,hsd]
        change ((Sem.run P (markStringish ⟨c,i*k.esz,none⟩) w).andThen _).andThen _=_
        rw [hfz]
        rfl
       ·refine .sl b i n _ k (by simp [fX,bV]) (.inr (by omega)) ⟨_,_,rfl⟩ (fun _ _=>⟨_,_,rfl,.inr ⟨c,by simp [cE],rfl, ?_,hnc⟩⟩)
        have:bsize w3 c=arr.size:=by unfold bsize;rw [rF hlt]
        rw [this, <-hbs];exact hcap
   ·cases hs
  ·cases hs
 ·cases hs
end
end Go.AI
