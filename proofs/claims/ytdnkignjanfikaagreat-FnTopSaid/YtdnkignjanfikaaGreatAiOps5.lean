/- Part. -/
import Derived.Test.YtdnkignjanfikaaGreatAiOps4
import Derived.Laws.BytesString
set_option linter.unusedVariables false
set_option linter.unusedSimpArgs false
namespace Go.AI
section
variable {P:Program} {μ:Mu} {h:ba} {w:World} {f:Nat->V} {a:Act}
theorem Lw [Frame] (H:bG μ h w) {w':World} (g:Am w w') {new:Nat} (hn:h new=none) {esz:Nat} {rows:List (List V)} {arr:Array Value} {t:TypeId} {lo hi cap:Nat}
 (o:w'.heap[w.heap.size]? =some (.cells arr t (lo,hi))) (p:Fz arr.size lo hi) (h0:0<esz) (d:rows.length<=cap) (f:cap*esz<=arr.size)
 (m: ∀row∈rows,row.length=esz/\ ∀v∈row,v.cell=true/\v.cl=true)
 (l: ∀i row j v,rows[i]? =some row->row[j]? =some v->b7 μ h w v (arr.getD (i*esz+j) undef)):
 ∃μ',bG μ' (ci h new ⟨esz,false,rows⟩) w'/\Chg μ h w μ' (ci h new ⟨esz,false,rows⟩) w'/\
  b7 μ' (ci h new ⟨esz,false,rows⟩) w' (.sl new 0 rows.length) (.slice (some ⟨w.heap.size,0,none⟩) rows.length cap):=by
 have n:rows.length*esz<=arr.size:=fT (bg _ d) f
 have e:=H.new g (b:=new) (c:=w.heap.size) (k:=⟨esz,false,rows⟩) hn (am _) o p h0 n
  (fun row a=>⟨(m row a).1,fun v l=>⟨((m row a).2 v l).1,fun _=>((m row a).2 v l).2⟩⟩) l
 refine ⟨_,e.1,e.2,.sl new 0 rows.length _ ⟨esz,false,rows⟩ (by simp [ci]) (.inr sm) ⟨_,_,rfl⟩ (fun _ _=>⟨_,_,rfl,.inr ⟨w.heap.size,by simp [cM],by simp, ?_,d⟩⟩)⟩
 simp only [ce]
 unfold bsize
 rw [o]
 exact f
theorem a0k (s:ByteArray) (j:Nat) (b:UInt8) (a:s.data.toList[j]? =some b):(s.data.map fun b=>Value.int .u8 b.toNat)[j]? =some (.int .u8 b.toNat):=by
 rw [Array.getElem?_toList] at a
 simp [a]
theorem a0g [Frame] (H:bG μ h w) (E:ic μ h w f a) {o:Oper} {s d e:TypeId} {x:Operand} {x':Opd} (hop:o.op= .convert s d x) (hx:bF x=some x') (h1:P.underlying s=some .string) (h2:P.underlying d=some (.slice e)) (h3:P.underlying e=some (.int .u8))
 {C:cr} {ow:FuncId->List Nat} {new:Nat} {v:V} {u:Upd} (n:aK C ow (.toBytes x') (Opd.ev f) h new=some (v,u)):jv P o a μ h w v u:=by
 have p:=bX E hx
 simp only [aK] at n
 split at n
 ·rename_i b hb
  split at n
  ·rename_i hle
   obtain ⟨hn,h0,hr⟩:=uw n
   cases hr
   rw [hb] at p
   have hX:=dw p
   have hq:(Question.appendCap b.size 0 e).forced=false:=rfl
   let cap:=(Question.appendCap b.size 0 e).cut (w.tape w.drawn (Question.appendCap b.size 0 e))
   have q:b.size<=cap:=by
    show b.size<=Question.cut (.appendCap b.size 0 e) _
    simp only [Question.cut];omega
   let arr:Array Value:=(b.data.map fun b=>Value.int .u8 b.toNat)++Array.replicate (cap-b.size) (.int .u8 0)
   have hasz:arr.size=cap:=by simp [arr];have:b.data.size=b.size:=rfl;omega
   let w1:World:={ w with drawn:=w.drawn+1 }
   let w2:World:=p8 w1 (.cells arr e (0,0))
   let w3:World:=iT w2 w.heap.size arr e (arr.size,arr.size+1)
   have m:w.heap.size<w2.heap.size:=by show w.heap.size<(w.heap.push _).size;rw [Array.size_push];omega
   have hg:Am w w3:=by
    refine ⟨rfl,rfl,rfl,by show _<=(iT w2 _ _ _ _).heap.size;rw [yj];omega,fun c hc=> ?_,p7 _⟩
    show (iT w2 _ _ _ _).heap[c]? =_
    rw [Dc om]
    show (w.heap.push _)[c]? =_
    rw [jz,a7 om]
   have r:(execOp a.eval o).run P w= .ok (.value (.slice (some ⟨w.heap.size,0,none⟩) b.size cap)) w3:=by
    have z:(markStringish ⟨w.heap.size,0,none⟩).run P w2= .ok () w3:=by
     have hat:w2.heap[w.heap.size]? =some (.cells arr e (0,0)):=ti w1 _
     have hsh:w2.shape? w.heap.size=some (e,arr.size):=by simp only [World.shape?];rw [hat]
     simp only [markStringish,Sem.run_bind,run_shape,Result.andThen_ok,hsh,run_freeze]
     congr 1
     show World.freeze w2 ⟨w.heap.size,arr.size,none⟩ 1=iT w2 w.heap.size arr e (arr.size,arr.size+1)
     unfold World.freeze iT
     rw [a7 dcd]
     congr 1
     apply fS
     intro k
     rw [eO,cE]
     by_cases ek:w.heap.size=k
     ·subst ek;rw [aa rfl,aa rfl,hat,aa m];rfl
     ·simp [ek]
    simp only [execOp,hop,hX,convert,Sem.run_bind,run_underlying h1,run_underlying h2,run_underlying h3,Result.andThen_ok,Conv.stringToBytes,run_choose,hq,bC,if_false,newRow,run_newObj,Sem.run_pure,z]
    change ((Sem.run P (markStringish ⟨w.heap.size,0,none⟩) w2).andThen _).andThen _=_
    rw [z]
    rfl
   obtain ⟨μ',q1,q2,q3⟩:=Lw H hg (new:=new) hn (esz:=1) (rows:=b.data.toList.map fun b=>[.lit (.int .u8 b.toNat)]) (arr:=arr) (t:=e) (lo:=arr.size) (hi:=arr.size+1) (cap:=cap)
    (uz m) (.inr (am _)) dcd (by rw [aw];exact q) om
    (fun row hrow=>by
     obtain ⟨y,hy,rfl⟩:=bf.1 hrow
     exact ⟨rfl,fun v hv=>by simp at hv;subst hv;exact ⟨rfl,rfl⟩⟩)
    (fun i row j v hi hj=>by
     rw [b6] at hi
     cases l:b.data.toList[i]? with
     |none=>rw [l] at hi;cases hi
     |some y=>
      rw [l] at hi;cases hi
      cases j with
      |zero=>
       simp at hj;subst hj
       have hlt:=dg l
       have:arr[i]? =some (.int .u8 y.toNat):=by
        show ((b.data.map fun b=>Value.int .u8 b.toNat)++Array.replicate (cap-b.size) (.int .u8 0))[i]? =_
        rw [sG,aa (by simpa using hlt)]
        exact a0k b i y l
       simp only [tR,cH,Array.getD_eq_getD_getElem?,this,dL]
       exact .lit _
      |succ j=>simp at hj)
   have hbl:(b.data.toList.map fun b=>[V.lit (.int .u8 b.toNat)]).length=b.size:=by simp
   rw [hbl] at q3
   exact ⟨_,_,_,.inl r,q1,q2,q3⟩
  ·cases n
 ·cases n
structure c0S [Frame] (μ:Mu) (h:ba) (w:World) (rows:List (List V)) (esz c off:Nat):Prop where
 cell: ∀i row j v,rows[i]? =some row->row[j]? =some v-> ∃y,w.cell? ⟨c,off+(i*esz+j),none⟩=some y/\b7 μ h w v y
 row: ∀row∈rows,row.length=esz/\ ∀v∈row,v.cell=true/\v.cl=true
theorem La [Frame] (H:bG μ h w) {v:V} {x:Value} {esz:Nat} {rows:List (List V)} (h0:0<esz) (a:fm h esz v=some rows) (l:b7 μ h w v x) (hns: ∀s,x≠ .string s):
 ∃ad cap,x= .slice ad rows.length cap/\(rows=[]\/ ∃c off,ad=some ⟨c,off,none⟩/\c0S μ h w rows esz c off/\c<w.heap.size/\(∀b s n,v= .sl b s n->μ b=some c)):=by
 cases v with
 |sl b s n=>
  simp only [fm] at a
  cases q:h b with
  |none=>rw [q] at a;cases a
  |some k=>
   rw [q] at a
   dsimp only at a
   split at a
   ·rename_i hc
    obtain ⟨c1,c2,c3,c4⟩:=hc
    cases a
    have r:(k.rows.drop s).length=n:=by simp;omega
    cases l with
    |sl _ _ _ _ k' t hn' hx hp=>
     rw [q] at t;cases t
     obtain ⟨ad,cap,rfl,hok⟩:=hp om c4
     refine ⟨ad,cap,by rw [r], ?_⟩
     by_cases hz:n=0
     ·exact .inl (bN om)
     ·rcases hok with ⟨g1,_⟩|⟨c,hm,rfl,hcap,hnc⟩
      ·exact absurd g1 hz
      ·refine .inr ⟨c,s*k.esz,rfl,⟨fun i row j v hi hj=> ?_,fun row d=> ?_⟩,H.lt hm,(fun b' s' n' e=>by cases e;exact hm)⟩
       ·rw [fZ] at hi
        obtain ⟨c',u,R,_,_⟩:=Kd H q hi c2
        rw [hm] at u;cases u
        obtain ⟨y,hy,l⟩:=R.cell j v hj
        refine ⟨y, ?_,l⟩
        rw [<-c3, <-hy,Nat.add_mul,gt]
       ·have:=H.rows b k q row (bZ d)
        exact ⟨by rw [<-c3];exact this.1 c2,fun v l=>⟨(this.2 v l).1,(this.2 v l).2 c1⟩⟩
   ·cases a
 |imm e rows'=>
  simp only [fm] at a
  have o:rows'=rows/\(e=esz\/rows=[]):=by
   split at a
   ·rename_i z;cases a;exact ⟨rfl,.inl z⟩
   ·split at a
    ·rename_i z;cases a;have:rows'=[]:=by simpa using z
     exact ⟨this,.inr rfl⟩
    ·cases a
  obtain ⟨rfl,o⟩:=o
  cases l with
  |emp ad=>exact ⟨ad,0,rfl,.inl rfl⟩
  |imm0 _ ad cap z=>exact ⟨ad,cap,rfl,.inl rfl⟩
  |imm _ _ c off cap ys z hr' hcp hc hs d p l=>
   rcases o with rfl|o
   ·refine ⟨_,cap,rfl,.inr ⟨c,off,rfl,⟨fun i row j v hi hj=> ?_,fun row f=>⟨(d row f).1,fun v l=>⟨((d row f).2 v l).2,((d row f).2 v l).1⟩⟩⟩,hc,(fun _ _ _ e=>by cases e)⟩⟩
    refine ⟨ys i j,p i j (dg hi) ?_,l i row j v hi hj⟩
    rw [<-(d row (al hi)).1]
    exact dg hj
   ·exact absurd o hr'
 |lit y=>
  have:=dw l
  subst this
  cases x with
  |slice ad m c=>
   cases ad with
   |none=>
    cases m with
    |zero=>
     cases c with
     |zero=>simp [fm] at a;subst a;exact ⟨none,0,rfl,.inl rfl⟩
     |succ c=>simp [fm] at a
    |succ m=>simp [fm] at a
   |some ad=>
    cases m with
    |zero=>simp [fm] at a;subst a;exact ⟨some ad,c,rfl,.inl rfl⟩
    |succ m=>simp [fm] at a
  |string s=>exact absurd rfl (hns s)
  |_=>simp [fm] at a
 |_=>simp [fm] at a
theorem a5f [Frame] {v:V} {s:ByteArray} (e:b7 μ h w v (.string s)):v= .lit (.string s)\/v= .undef:=by
 cases e with
 |lit=>exact .inl rfl
 |ptr b i o n _ k d hn a f=>obtain ⟨c,off,a⟩:=a;cases a
 |sl b s n _ k d hn a f=>obtain ⟨c,m,a⟩:=a;cases a
 |mp b _ k d a j=>obtain ⟨c,a⟩:=a;cases a
 |unk=>exact .inr rfl
theorem O4: ∀{rows:List (List V)} {l:List UInt8},aK.bytesOf rows=some l->l.length=rows.length/\ ∀(i:Nat) (row:List V),rows[i]? =some row-> ∃n:Int,row=[.lit (.int .u8 n)]/\l[i]? =some (UInt8.ofNat n.toNat)
 |[],l,hl=>by simp [aK.bytesOf] at hl;subst hl;exact ⟨rfl,(fun i row h=>by simp at h)⟩
 |row::rows,l,hl=>by
  unfold aK.bytesOf at hl
  split at hl
  ·rename_i heq;cases heq
  ·rename_i n r heq
   cases heq
   split at hl
   ·split at hl
    ·rename_i l' hl'
     cases hl
     obtain ⟨g1,g2⟩:=O4 hl'
     refine ⟨by simp [g1],fun i row hb=> ?_⟩
     cases i with
     |zero=>simp at hb;subst hb;exact ⟨n,rfl,rfl⟩
     |succ i=>exact g2 i row (by simpa using hb)
    ·cases hl
   ·cases hl
  ·cases hl
theorem foldl_push_bytes (ns:List Int): ∀(s:ByteArray),(ns.foldl (fun r n=>r.push (UInt8.ofNat n.toNat)) s).data.toList=s.data.toList++ns.map (fun n=>UInt8.ofNat n.toNat):=by
 induction ns with
 |nil=>intro s;simp
 |cons n ns ih=>intro s;rw [bQ,ih];simp [ByteArray.push]
theorem a7f [Frame] (H:bG μ h w) (E:ic μ h w f a) {o:Oper} {s d e:TypeId} {x:Operand} {x':Opd} (t:o.op= .convert s d x) (hx:bF x=some x') (h1:P.underlying s=some (.slice e)) (h2:P.underlying d=some .string) (h3:P.underlying e=some (.int .u8))
 {C:cr} {ow:FuncId->List Nat} {new:Nat} {v:V} {u:Upd} (p:aK C ow (.toStr x') (Opd.ev f) h new=some (v,u)):jv P o a μ h w v u:=by
 have z:=bX E hx
 simp only [aK] at p
 split at p
 ·cases p
 rename_i k
 split at p
 ·rename_i rows b
  split at p
  ·rename_i l hl
   cases p
   obtain ⟨g1,g2⟩:=O4 hl
   have hns: ∀s,a.eval x≠ .string s:=by
    intro s e
    rw [e] at z
    rcases a5f z with h5|h5
    ·rw [h5] at k;exact k rfl
    ·rw [h5] at b;simp [fm] at b
   obtain ⟨ad,cap,hX,hat⟩:=La H dcd b z hns
   refine .quiet H (x:= .string ⟨l.toArray⟩) ?_ (.lit _)
   rcases hat with rfl|⟨c,off,rfl,R,_,_⟩
   ·have:l=[]:=bN (by simpa using g1)
    subst this
    cases ad with
    |none=>simp [execOp,t,convert,run_underlying h1,run_underlying h2,run_underlying h3,hX,Conv.bytesToString];rfl
    |some ad=>
     simp [execOp,t,convert,run_underlying h1,run_underlying h2,run_underlying h3,hX]
     rw [run_bytesToString w ad 0 cap [] (by simp [loadCells,loadCellsFrom])]
     rfl
   ·let num:Nat->Int:=fun i=>match rows[i]? with
     |some [.lit (.int .u8 n)]=>n
     |_=>0
    have q: ∀i,i<rows.length-> ∃n:Int,rows[i]? =some [.lit (.int .u8 n)]/\num i=n/\l[i]? =some (UInt8.ofNat n.toNat):=by
     intro i hi
     obtain ⟨n,hn,hln⟩:=g2 i rows[i] (aq hi)
     have h4:rows[i]? =some [.lit (.int .u8 n)]:=by rw [aq hi,hn]
     exact ⟨n,h4,by simp only [num,h4],hln⟩
    have hcell: ∀j,j<rows.length->w.cell? ⟨c,off+j,none⟩=some (.int .u8 (num j)):=by
     intro j hj
     obtain ⟨n,hn,hnn,_⟩:=q j hj
     obtain ⟨y,hy,hv⟩:=R.cell j _ 0 (.lit (.int .u8 n)) hn rfl
     rw [dw hv] at hy
     rw [hnn, <-hy]
     simp
    have m:=vy (P:=P) hcell
    have hmap:(Array.range rows.length).map (fun j=>Value.int .u8 (num j))=(((List.range rows.length).map num).map (Value.int .u8)).toArray:=by
     apply fL;simp
    rw [hmap] at m
    have hrun:=run_bytesToString (P:=P) w ⟨c,off,none⟩ rows.length cap ((List.range rows.length).map num) m
    have hres:((List.range rows.length).map num).foldl (fun r n=>r.push (UInt8.ofNat n.toNat)) ByteArray.empty=⟨l.toArray⟩:=by
     have h5:=foldl_push_bytes ((List.range rows.length).map num) ByteArray.empty
     have h6:((List.range rows.length).map num).map (fun n=>UInt8.ofNat n.toNat)=l:=by
      apply vZ
      intro i
      by_cases hi:i<rows.length
      ·obtain ⟨n,hn,hnn,hln⟩:=q i hi
       simp [hi,hnn,hln]
      ·have h7:l[i]? =none:=cf om
       simp [hi,h7]
     rw [h6] at h5
     generalize ((List.range rows.length).map num).foldl (fun r n=>r.push (UInt8.ofNat n.toNat)) ByteArray.empty=B at h5
     cases B with
     |mk data=>
      congr 1
      apply fL
      simpa using h5
    simp [execOp,t,convert,run_underlying h1,run_underlying h2,run_underlying h3,hX]
    rw [hrun,hres]
    rfl
  ·cases p
 ·cases p
theorem WV [Frame] (H:bG μ h w) (E:ic μ h w f a) {o:Oper} {s d e0 e:TypeId} {x:Operand} {x':Opd} (hop:o.op= .convert s d x) (hx:bF x=some x') (h1:P.underlying s=some (.slice e0)) (h2:P.underlying d=some (.slice e)) (h3:P.underlying e=some (.int .u8)) (hsd:(s==d)=true)
 {C:cr} {ow:FuncId->List Nat} {new:Nat} {v:V} {u:Upd} (j:aK C ow (.bytesOwn x') (Opd.ev f) h new=some (v,u)):jv P o a μ h w v u:=by
 have p:=bX E hx
 simp only [aK] at j
 split at j
 ·rename_i b i n hb
  split at j
  ·rename_i k y
   split at j
   ·rename_i hc
    cases j
    obtain ⟨c1,c2,c3,c4⟩:=hc
    rw [hb] at p
    generalize hX:a.eval x=X at p
    cases p with
    |sl _ _ _ _ k' z hn' hx' hp=>
     rw [y] at z;cases z
     obtain ⟨ad,cap,rfl,hok⟩:=hp om c3
     rcases hok with ⟨g1,_⟩|⟨c,hm,rfl,hcap,hnc⟩
     ·omega
     ·rcases H.blk b k y with ⟨_,_,hmn⟩|⟨h0,c',arr,t,lo,hi,hm',hh,hf,hl,hv⟩|⟨h0,_⟩
      ·rw [hm] at hmn;cases hmn
      rotate_left
      ·omega
      ·rw [hm] at hm';cases hm'
       let fz:Nat×Nat:=if lo==hi then (arr.size,arr.size+1) else (min lo arr.size,max hi (arr.size+1))
       let w3:World:=iT w c arr t fz
       have r:=rq hh
       have hfz:(markStringish ⟨c,i*k.esz,none⟩).run P w= .ok () w3:=by
        have hsh:w.shape? c=some (t,arr.size):=by simp only [World.shape?];rw [hh]
        simp only [markStringish,Sem.run_bind,run_shape,Result.andThen_ok,hsh,run_freeze]
        congr 1
        show World.freeze w ⟨c,arr.size,none⟩ 1=iT w c arr t fz
        unfold World.freeze iT
        rw [a7 dcd]
        congr 1
        apply fS
        intro q
        rw [eO,cE]
        by_cases eq:c=q
        ·subst eq;rw [aa rfl,aa rfl,hh,aa r];rfl
        ·simp [eq]
       have hF:Fz arr.size fz.1 fz.2:=by
        show Fz arr.size (if lo==hi then (arr.size,arr.size+1) else (min lo arr.size,max hi (arr.size+1))).1 (if lo==hi then (arr.size,arr.size+1) else (min lo arr.size,max hi (arr.size+1))).2
        by_cases el:lo=hi
        ·simp [el,Fz]
        ·rcases hf with hf|hf
         ·exact absurd hf el
         ·simp [el,Fz];omega
       have hbs:bsize w c=arr.size:=by unfold bsize;rw [hh]
       have l:=H.put (w':=w3) (c:=c) (k':=k) y h0 (.inl hm) rfl rfl rfl (by show _<=(iT w c arr t fz).heap.size;rw [yj];exact am _) (am _) (fun c' _ hne=>Dc hne) (uz r) hF rfl hl
        (fun row m=>⟨(H.rows b k y row m).1 h0,(H.rows b k y row m).2⟩) (.inr ⟨rfl,hm,hbs.symm⟩) hv
       refine ⟨.slice (some ⟨c,i*k.esz,none⟩) n cap,w3,_,.inl ?_,l.1,l.2, ?_⟩
       ·simp only [execOp,hop,hX,convert,Sem.run_bind,run_underlying h1,run_underlying h2,run_underlying h3,Result.andThen_ok,hsd]
        change ((Sem.run P (markStringish ⟨c,i*k.esz,none⟩) w).andThen _).andThen _=_
        rw [hfz]
        rfl
       ·refine .sl b i n _ k (by simp [hU,ci]) (.inr om) ⟨_,_,rfl⟩ (fun _ _=>⟨_,_,rfl,.inr ⟨c,by simp [cM],rfl, ?_,hnc⟩⟩)
        have:bsize w3 c=arr.size:=by unfold bsize;rw [uz r]
        rw [this, <-hbs];exact hcap
   ·cases j
  ·cases j
 ·cases j
end
end Go.AI
