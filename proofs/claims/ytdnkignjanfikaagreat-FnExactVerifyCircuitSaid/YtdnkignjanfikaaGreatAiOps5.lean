/- Part. -/
import Derived.Test.YtdnkignjanfikaaGreatAiOps4
import Derived.Laws.BytesString
set_option linter.unusedVariables false
set_option linter.unusedSimpArgs false
namespace Go.AI
section
variable {P:Program} {μ:Mu} {h:b8} {w:World} {f:Nat->V} {a:Act}
theorem L9 [Frame] (H:bB μ h w) {w':World} (g:yP w w') {new:Nat} (q:h new=none) {esz:Nat} {rows:List (List V)} {arr:Array Value} {t:TypeId} {lo hi cap:Nat}
 (p:w'.heap[w.heap.size]? =some (.cells arr t (lo,hi))) (r:Fz arr.size lo hi) (h0:0<esz) (d:rows.length<=cap) (f:cap*esz<=arr.size)
 (n: ∀row∈rows,row.length=esz/\ ∀v∈row,v.cell=true/\v.cl=true)
 (m: ∀i row j v,rows[i]? =some row->row[j]? =some v->aY μ h w v (arr.getD (i*esz+j) undef)):
 ∃μ',bB μ' (bT h new ⟨esz,false,rows⟩) w'/\Chg μ h w μ' (bT h new ⟨esz,false,rows⟩) w'/\
  aY μ' (bT h new ⟨esz,false,rows⟩) w' (.sl new 0 rows.length) (.slice (some ⟨w.heap.size,0,none⟩) rows.length cap):=by
 l o:rows.length*esz<=arr.size:=e7 (bi _ d) f
 l e:=H.new g (b:=new) (c:=w.heap.size) (k:=⟨esz,false,rows⟩) q (aw _) p r h0 o
   (fun row a=>⟨(n row a).1,fun v m=>⟨((n row a).2 v m).1,fun _=>((n row a).2 v m).2⟩⟩) m
 refine ⟨_,e.1,e.2,.sl new 0 rows.length _ ⟨esz,false,rows⟩ (by simp [bT]) (.inr (by simp)) ⟨_,_,rfl⟩ (fun _ _=>⟨_,_,rfl,.inr ⟨w.heap.size,by simp [cE],by simp, ?_,d⟩⟩)⟩
 simp only [cy]
 unfold bsize
 rw [p]
 exact f
theorem a3F (s:ByteArray) (j:Nat) (b:UInt8) (a:s.data.toList[j]? =some b):(s.data.map fun b=>Value.int .u8 b.toNat)[j]? =some (.int .u8 b.toNat):=by
 rw [Array.getElem?_toList] at a
 simp [a]
theorem a0W [Frame] (H:bB μ h w) (E:gi μ h w f a) {o:Oper} {s d e:TypeId} {x:Operand} {x':Opd} (hop:o.op= .convert s d x) (hx:bA x=some x') (h1:P.underlying s=some .string) (h2:P.underlying d=some (.slice e)) (h3:P.underlying e=some (.int .u8))
 {C:ce} {ow:FuncId->List Nat} {new:Nat} {v:V} {u:Upd} (q:aM C ow (.toBytes x') (Opd.ev f) h new=some (v,u)):ix P o a μ h w v u:=by
 l r:=bM E hx
 simp only [aM] at q
 split at q
 ·rename_i b hb
  split at q
  ·rename_i hle
   obtain ⟨hn,h0,hr⟩:=rb q
   cases hr
   rw [hb] at r
   l hX:=de r
   l hq:(Question.appendCap b.size 0 e).forced=false:=rfl
   let cap:=(Question.appendCap b.size 0 e).cut (w.tape w.drawn (Question.appendCap b.size 0 e))
   l z:b.size<=cap:=by
     show b.size<=Question.cut (.appendCap b.size 0 e) _
     simp only [Question.cut];omega
   let arr:Array Value:=(b.data.map fun b=>Value.int .u8 b.toNat)++Array.replicate (cap-b.size) (.int .u8 0)
   l hasz:arr.size=cap:=by simp [arr];l:b.data.size=b.size:=rfl;omega
   let w1:World:={ w with drawn:=w.drawn+1 }
   let m:World:=mK w1 (.cells arr e (0,0))
   let w3:World:=gZ m w.heap.size arr e (arr.size,arr.size+1)
   l p:w.heap.size<m.heap.size:=by show w.heap.size<(w.heap.push _).size;rw [Array.size_push];omega
   l hg:yP w w3:=by
     refine ⟨rfl,rfl,rfl,by show _<=(gZ m _ _ _ _).heap.size;rw [vK];omega,fun c hc=> ?_,mD _⟩
     show (gZ m _ _ _ _).heap[c]? =_
     rw [BY (by omega)]
     show (w.heap.push _)[c]? =_
     rw [iD,aa (by omega)]
   l hrun:(execOp a.eval o).run P w= .ok (.value (.slice (some ⟨w.heap.size,0,none⟩) b.size cap)) w3:=by
     l hfz:(markStringish ⟨w.heap.size,0,none⟩).run P m= .ok () w3:=by
       l hat:m.heap[w.heap.size]? =some (.cells arr e (0,0)):=pJ w1 _
       l hsh:m.shape? w.heap.size=some (e,arr.size):=by simp only [World.shape?];rw [hat]
       simp only [markStringish,Sem.run_bind,run_shape,Result.andThen_ok,hsh,run_freeze]
       congr 1
       show World.freeze m ⟨w.heap.size,arr.size,none⟩ 1=gZ m w.heap.size arr e (arr.size,arr.size+1)
       unfold World.freeze gZ
       rw [aa (by decide)]
       congr 1
       apply fb
       intro k
       rw [dT,cu]
       by_cases ek:w.heap.size=k
       ·subst ek;rw [ae rfl,ae rfl,hat,ae p];rfl
       ·simp [ek]
     simp only [execOp,hop,hX,convert,Sem.run_bind,run_underlying h1,run_underlying h2,run_underlying h3,Result.andThen_ok,Conv.stringToBytes,run_choose,hq,bx,if_false,newRow,run_newObj,Sem.run_pure,hfz]
     change ((Sem.run P (markStringish ⟨w.heap.size,0,none⟩) m).andThen _).andThen _=_
     rw [hfz]
     rfl
   obtain ⟨μ',q1,q2,q3⟩:=L9 H hg (new:=new) hn (esz:=1) (rows:=b.data.toList.map fun b=>[.lit (.int .u8 b.toNat)]) (arr:=arr) (t:=e) (lo:=arr.size) (hi:=arr.size+1) (cap:=cap)
    (rd p) (.inr (aw _)) (by decide) (by rw [aO];exact z) (by omega)
    (fun row hrow=>by
     obtain ⟨y,hy,rfl⟩:=bq.1 hrow
     exact ⟨rfl,fun v hv=>by simp at hv;subst hv;exact ⟨rfl,rfl⟩⟩)
    (fun i row j v hi hj=>by
     rw [aW] at hi
     cases n:b.data.toList[i]? with
     |none=>rw [n] at hi;cases hi
     |some y=>
      rw [n] at hi;cases hi
      cases j with
      |zero=>
       simp at hj;subst hj
       l hlt:=cS n
       l:arr[i]? =some (.int .u8 y.toNat):=by
        show ((b.data.map fun b=>Value.int .u8 b.toNat)++Array.replicate (cap-b.size) (.int .u8 0))[i]? =_
        rw [oY,ae (by simpa using hlt)]
        exact a3F b i y n
       simp only [pQ,cQ,Array.getD_eq_getD_getElem?,this,dq]
       exact .lit _
      |succ j=>simp at hj)
   l hbl:(b.data.toList.map fun b=>[V.lit (.int .u8 b.toNat)]).length=b.size:=by simp
   rw [hbl] at q3
   exact ⟨_,_,_,.inl hrun,q1,q2,q3⟩
  ·cases q
 ·cases q
structure c5F [Frame] (μ:Mu) (h:b8) (w:World) (rows:List (List V)) (esz c off:Nat):Prop where
 cell: ∀i row j v,rows[i]? =some row->row[j]? =some v-> ∃y,w.cell? ⟨c,off+(i*esz+j),none⟩=some y/\aY μ h w v y
 row: ∀row∈rows,row.length=esz/\ ∀v∈row,v.cell=true/\v.cl=true
theorem Ka [Frame] (H:bB μ h w) {v:V} {x:Value} {esz:Nat} {rows:List (List V)} (h0:0<esz) (a:ed h esz v=some rows) (o:aY μ h w v x) (hns: ∀s,x≠ .string s):
 ∃ad cap,x= .slice ad rows.length cap/\(rows=[]\/ ∃c off,ad=some ⟨c,off,none⟩/\c5F μ h w rows esz c off/\c<w.heap.size/\(∀b s n,v= .sl b s n->μ b=some c)):=by
 cases v with
 |sl b s n=>
  simp only [ed] at a
  cases r:h b with
  |none=>rw [r] at a;cases a
  |some k=>
   rw [r] at a
   dsimp only at a
   split at a
   ·rename_i hc
    obtain ⟨c1,c2,c3,c4⟩:=hc
    cases a
    l t:(k.rows.drop s).length=n:=by simp;omega
    cases o with
    |sl _ _ _ _ k' u hn' hx hp=>
     rw [r] at u;cases u
     obtain ⟨ad,cap,rfl,hok⟩:=hp (by omega) c4
     refine ⟨ad,cap,by rw [t], ?_⟩
     by_cases hz:n=0
     ·exact .inl (bS (by omega))
     ·rcases hok with ⟨g1,_⟩|⟨c,hm,rfl,hcap,hnc⟩
      ·exact absurd g1 hz
      ·refine .inr ⟨c,s*k.esz,rfl,⟨fun i row j v hi hj=> ?_,fun row d=> ?_⟩,H.lt hm,(fun b' s' n' e=>by cases e;exact hm)⟩
       ·rw [gw] at hi
        obtain ⟨c',z,R,_,_⟩:=JL H r hi c2
        rw [hm] at z;cases z
        obtain ⟨y,hy,o⟩:=R.cell j v hj
        refine ⟨y, ?_,o⟩
        rw [<-c3, <-hy,Nat.add_mul,fx]
       ·l:=H.rows b k r row (ca d)
        exact ⟨by rw [<-c3];exact this.1 c2,fun v o=>⟨(this.2 v o).1,(this.2 v o).2 c1⟩⟩
   ·cases a
 |imm e rows'=>
  simp only [ed] at a
  l p:rows'=rows/\(e=esz\/rows=[]):=by
    split at a
    ·rename_i he;cases a;exact ⟨rfl,.inl he⟩
    ·split at a
     ·rename_i he;cases a;l:rows'=[]:=by simpa using he
      exact ⟨this,.inr rfl⟩
     ·cases a
  obtain ⟨rfl,p⟩:=p
  cases o with
  |emp ad=>exact ⟨ad,0,rfl,.inl rfl⟩
  |imm0 _ ad cap he=>exact ⟨ad,cap,rfl,.inl rfl⟩
  |imm _ _ c off cap ys he hr' hcp hc hs d q o=>
   rcases p with rfl|p
   ·refine ⟨_,cap,rfl,.inr ⟨c,off,rfl,⟨fun i row j v hi hj=> ?_,fun row f=>⟨(d row f).1,fun v o=>⟨((d row f).2 v o).2,((d row f).2 v o).1⟩⟩⟩,hc,(fun _ _ _ e=>by cases e)⟩⟩
    refine ⟨ys i j,q i j (cS hi) ?_,o i row j v hi hj⟩
    rw [<-(d row (an hi)).1]
    exact cS hj
   ·exact absurd p hr'
 |lit y=>
  l:=de o
  subst this
  cases x with
  |slice ad m c=>
   cases ad with
   |none=>
    cases m with
    |zero=>
     cases c with
     |zero=>simp [ed] at a;subst a;exact ⟨none,0,rfl,.inl rfl⟩
     |succ c=>simp [ed] at a
    |succ m=>simp [ed] at a
   |some ad=>
    cases m with
    |zero=>simp [ed] at a;subst a;exact ⟨some ad,c,rfl,.inl rfl⟩
    |succ m=>simp [ed] at a
  |string s=>exact absurd rfl (hns s)
  |_=>simp [ed] at a
 |_=>simp [ed] at a
theorem a7u [Frame] {v:V} {s:ByteArray} (e:aY μ h w v (.string s)):v= .lit (.string s)\/v= .undef:=by
 cases e with
 |lit=>exact .inl rfl
 |ptr b i o n _ k d f a j=>obtain ⟨c,off,a⟩:=a;cases a
 |sl b s n _ k d f a j=>obtain ⟨c,m,a⟩:=a;cases a
 |mp b _ k d a l=>obtain ⟨c,a⟩:=a;cases a
 |unk=>exact .inr rfl
theorem Nm: ∀{rows:List (List V)} {l:List UInt8},aM.bytesOf rows=some l->l.length=rows.length/\ ∀(i:Nat) (row:List V),rows[i]? =some row-> ∃n:Int,row=[.lit (.int .u8 n)]/\l[i]? =some (UInt8.ofNat n.toNat)
 |[],l,a=>by simp [aM.bytesOf] at a;subst a;exact ⟨rfl,(fun i row h=>by simp at h)⟩
 |row::rows,l,a=>by
  unfold aM.bytesOf at a
  split at a
  ·rename_i b;cases b
  ·rename_i n r b
   cases b
   split at a
   ·split at a
    ·rename_i l' c
     cases a
     obtain ⟨e,f⟩:=Nm c
     refine ⟨by simp [e],fun i row d=> ?_⟩
     cases i with
     |zero=>simp at d;subst d;exact ⟨n,rfl,rfl⟩
     |succ i=>exact f i row (by simpa using d)
    ·cases a
   ·cases a
  ·cases a
theorem foldl_push_bytes (ns:List Int): ∀(s:ByteArray),(ns.foldl (fun r n=>r.push (UInt8.ofNat n.toNat)) s).data.toList=s.data.toList++ns.map (fun n=>UInt8.ofNat n.toNat):=by
 induction ns with
 |nil=>intro s;simp
 |cons n ns ih=>intro s;rw [pa,ih];simp [ByteArray.push]
theorem b0o [Frame] (H:bB μ h w) (E:gi μ h w f a) {o:Oper} {s d e:TypeId} {x:Operand} {x':Opd} (z:o.op= .convert s d x) (hx:bA x=some x') (h1:P.underlying s=some (.slice e)) (h2:P.underlying d=some .string) (h3:P.underlying e=some (.int .u8))
 {C:ce} {ow:FuncId->List Nat} {new:Nat} {v:V} {u:Upd} (q:aM C ow (.toStr x') (Opd.ev f) h new=some (v,u)):ix P o a μ h w v u:=by
 b hvx:=bM E hx
 simp only [aM] at q
 split at q
 ·cases q
 rename_i m
 split at q
 ·rename_i rows k
  split at q
  ·rename_i l hl
   cases q
   obtain ⟨g1,g2⟩:=Nm hl
   b hns: ∀s,a.eval x≠ .string s:=by
     intro s e
     rw [e] at hvx
     rcases a7u hvx with h5|h5
     ·rw [h5] at m;exact m rfl
     ·rw [h5] at k;simp [ed] at k
   obtain ⟨ad,cap,hX,hat⟩:=Ka H (by decide) k hvx hns
   refine .quiet H (x:= .string ⟨l.toArray⟩) ?_ (.lit _)
   rcases hat with rfl|⟨c,off,rfl,R,_,_⟩
   ·b:l=[]:=bS (by simpa using g1)
    subst this
    cases ad with
    |none=>simp [execOp,z,convert,run_underlying h1,run_underlying h2,run_underlying h3,hX,Conv.bytesToString];rfl
    |some ad=>
     simp [execOp,z,convert,run_underlying h1,run_underlying h2,run_underlying h3,hX]
     rw [run_bytesToString w ad 0 cap [] (by simp [loadCells,loadCellsFrom])]
     rfl
   ·let num:Nat->Int:=fun i=>match rows[i]? with
     |some [.lit (.int .u8 n)]=>n
     |_=>0
    b t: ∀i,i<rows.length-> ∃n:Int,rows[i]? =some [.lit (.int .u8 n)]/\num i=n/\l[i]? =some (UInt8.ofNat n.toNat):=by
      intro i hi
      obtain ⟨n,hn,hln⟩:=g2 i rows[i] (aq hi)
      b h4:rows[i]? =some [.lit (.int .u8 n)]:=by rw [aq hi,hn]
      exact ⟨n,h4,by simp only [num,h4],hln⟩
    b hcell: ∀j,j<rows.length->w.cell? ⟨c,off+j,none⟩=some (.int .u8 (num j)):=by
      intro j hj
      obtain ⟨n,hn,hnn,_⟩:=t j hj
      obtain ⟨y,hy,hv⟩:=R.cell j _ 0 (.lit (.int .u8 n)) hn rfl
      rw [de hv] at hy
      rw [hnn, <-hy]
      simp
    b p:=rX (P:=P) hcell
    b hmap:(Array.range rows.length).map (fun j=>Value.int .u8 (num j))=(((List.range rows.length).map num).map (Value.int .u8)).toArray:=by
      apply eV;simp
    rw [hmap] at p
    b hrun:=run_bytesToString (P:=P) w ⟨c,off,none⟩ rows.length cap ((List.range rows.length).map num) p
    b hres:((List.range rows.length).map num).foldl (fun r n=>r.push (UInt8.ofNat n.toNat)) ByteArray.empty=⟨l.toArray⟩:=by
      b h5:=foldl_push_bytes ((List.range rows.length).map num) ByteArray.empty
      b h6:((List.range rows.length).map num).map (fun n=>UInt8.ofNat n.toNat)=l:=by
        apply mZ
        intro i
        by_cases hi:i<rows.length
        ·obtain ⟨n,hn,hnn,hln⟩:=t i hi
         simp [hi,hnn,hln]
        ·b h7:l[i]? =none:=bD (by omega)
         simp [hi,h7]
      rw [h6] at h5
      generalize ((List.range rows.length).map num).foldl (fun r n=>r.push (UInt8.ofNat n.toNat)) ByteArray.empty=B at h5
      cases B with
      |mk data=>
       congr 1
       apply eV
       simpa using h5
    simp [execOp,z,convert,run_underlying h1,run_underlying h2,run_underlying h3,hX]
    rw [hrun,hres]
    rfl
  ·cases q
 ·cases q
theorem Xc [Frame] (H:bB μ h w) (E:gi μ h w f a) {o:Oper} {s d e0 e:TypeId} {x:Operand} {x':Opd} (hop:o.op= .convert s d x) (hx:bA x=some x') (h1:P.underlying s=some (.slice e0)) (h2:P.underlying d=some (.slice e)) (h3:P.underlying e=some (.int .u8)) (hsd:(s==d)=true)
 {C:ce} {ow:FuncId->List Nat} {new:Nat} {v:V} {u:Upd} (l:aM C ow (.bytesOwn x') (Opd.ev f) h new=some (v,u)):ix P o a μ h w v u:=by
 j r:=bM E hx
 simp only [aM] at l
 split at l
 ·rename_i b i n hb
  split at l
  ·rename_i k z
   split at l
   ·rename_i hc
    cases l
    obtain ⟨c1,c2,c3,c4⟩:=hc
    rw [hb] at r
    generalize hX:a.eval x=X at r
    cases r with
    |sl _ _ _ _ k' hk' hn' hx' hp=>
     rw [z] at hk';cases hk'
     obtain ⟨ad,cap,rfl,hok⟩:=hp (by omega) c3
     rcases hok with ⟨g1,_⟩|⟨c,hm,rfl,hcap,hnc⟩
     ·omega
     ·rcases H.blk b k z with ⟨_,_,hmn⟩|⟨h0,c',arr,t,lo,hi,hm',hh,hf,hl,hv⟩|⟨h0,_⟩
      ·rw [hm] at hmn;cases hmn
      rotate_left
      ·omega
      ·rw [hm] at hm';cases hm'
       let fz:Nat×Nat:=if lo==hi then (arr.size,arr.size+1) else (min lo arr.size,max hi (arr.size+1))
       let w3:World:=gZ w c arr t fz
       j y:=o0 hh
       j hfz:(markStringish ⟨c,i*k.esz,none⟩).run P w= .ok () w3:=by
         j hsh:w.shape? c=some (t,arr.size):=by simp only [World.shape?];rw [hh]
         simp only [markStringish,Sem.run_bind,run_shape,Result.andThen_ok,hsh,run_freeze]
         congr 1
         show World.freeze w ⟨c,arr.size,none⟩ 1=gZ w c arr t fz
         unfold World.freeze gZ
         rw [aa (by decide)]
         congr 1
         apply fb
         intro q
         rw [dT,cu]
         by_cases eq:c=q
         ·subst eq;rw [ae rfl,ae rfl,hh,ae y];rfl
         ·simp [eq]
       j hF:Fz arr.size fz.1 fz.2:=by
         show Fz arr.size (if lo==hi then (arr.size,arr.size+1) else (min lo arr.size,max hi (arr.size+1))).1 (if lo==hi then (arr.size,arr.size+1) else (min lo arr.size,max hi (arr.size+1))).2
         by_cases el:lo=hi
         ·simp [el,Fz]
         ·rcases hf with hf|hf
          ·exact absurd hf el
          ·simp [el,Fz];omega
       j hbs:bsize w c=arr.size:=by unfold bsize;rw [hh]
       j m:=H.put (w':=w3) (c:=c) (k':=k) z h0 (.inl hm) rfl rfl rfl (by show _<=(gZ w c arr t fz).heap.size;rw [vK];exact aw _) (aw _) (fun c' _ hne=>BY hne) (rd y) hF rfl hl
         (fun row p=>⟨(H.rows b k z row p).1 h0,(H.rows b k z row p).2⟩) (.inr ⟨rfl,hm,hbs.symm⟩) hv
       refine ⟨.slice (some ⟨c,i*k.esz,none⟩) n cap,w3,_,.inl ?_,m.1,m.2, ?_⟩
       ·simp only [execOp,hop,hX,convert,Sem.run_bind,run_underlying h1,run_underlying h2,run_underlying h3,Result.andThen_ok,hsd]
        change ((Sem.run P (markStringish ⟨c,i*k.esz,none⟩) w).andThen _).andThen _=_
        rw [hfz]
        rfl
       ·refine .sl b i n _ k (by simp [fW,bT]) (.inr (by omega)) ⟨_,_,rfl⟩ (fun _ _=>⟨_,_,rfl,.inr ⟨c,by simp [cE],rfl, ?_,hnc⟩⟩)
        j:bsize w3 c=arr.size:=by unfold bsize;rw [rd y]
        rw [this, <-hbs];exact hcap
   ·cases l
  ·cases l
 ·cases l
end
end Go.AI
