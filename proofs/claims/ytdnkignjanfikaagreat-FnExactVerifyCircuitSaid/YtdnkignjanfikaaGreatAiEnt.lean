/- A function that takes a map, collects its entries that are no noughts and sorts them: as a word of the machine. -/
import Derived.Test.YtdnkignjanfikaaGreatAiEnt1
import Derived.Test.YtdnkignjanfikaaGreatAiTop
set_option linter.unusedVariables false
set_option linter.unusedSimpArgs false
namespace Go.AI
section
def k9 (L:List Tri):Blk:=⟨0,true,[bB L]⟩
def c5K (D:List Tri):Blk:=⟨3,false,D.map kZ⟩
def zH (r:Nat):V:= .lit (.pointer (some ⟨r,0,none⟩))
def K3 (L D:List Tri):List (Nat×Blk):=[(0,k9 L),(2000,c5K D)]
def stA (L D:List Tri):St:=⟨[(0,.mp 0),(3,.sl 2000 0 D.length)],K3 L D⟩
def stB (r:Nat) (L D:List Tri):St:=⟨[(0,.mp 0),(3,.sl 2000 0 D.length),(8,zH r)],K3 L D⟩
def stE (r:Nat) (L D:List Tri) (a b v:Int):St:=⟨[(0,.mp 0),(3,.sl 2000 0 D.length),(8,zH r),(11,.tup [.agg [.lit (.int .i64 a),.lit (.int .i64 b)],.lit (.int .i64 v)])],K3 L D⟩
def a2S (kp:Bool) (D:List Tri):V:=bif kp then .sl 1 0 D.length else .imm 3 (D.map kZ)
def a5j (kp:Bool) (L D:List Tri):List Blk:=bif kp then [k9 L,⟨3,false,D.map kZ⟩] else [k9 L]
def a5v (kp:Bool):List V->List Blk->Option (V×List Blk)
 |[.mp 0],[⟨0,true,[cs]⟩]=>match MI cs with
  |some L=>if mW L=true/\L.length<1073741824 then some ((a2S kp (fV (L.filter nzT))).czR,a5j kp L (fV (L.filter nzT))) else none
  |none=>none
 |_,_=>none
structure b90 (P:Program) (T:Tab) (ow:en) (fn:Func) (hn:IW) where
 c0:Code
 c1:Code
 cR:Code
 cT:Code
 o20:Oper
 o21:Oper
 o30:Oper
 o31:Oper
 ops4:Array Oper
 o40:Oper
 l4:List Oper
 tM:TypeId
 kM:TypeId
 eM:TypeId
 a0:aP
 a1:aP
 aR:aP
 aT:aP
 s4:List cm
 v4:List Nat
 rs:List Me
 body:fn.body=some (.seq c0 (.seq c1 (.seq (.seq (.region 2 #[o20,o21] false) (.block 0 (.loop (.seq (.region 3 #[o30,o31] false) (.seq (.cond (.tmp 10) .skip (.exit 0)) (.block 1 (.seq (.region 4 ops4 false) cR))))))) cT)))
 d20:o20.dst=some 7/\o20.guard=none/\o20.op= .move (.tmp 0)
 d21:o21.dst=some 8/\o21.guard=none/\o21.op= .range tM (.tmp 7)
 d30:o30.dst=some 9/\o30.guard=none/\o30.op= .next (.tmp 8) false
 d31:o31.dst=some 10/\o31.guard=none/\o31.op= .extract (.tmp 9) 0
 d40:o40.dst=some 11/\o40.guard=none/\o40.op= .entry (.tmp 8)
 e4:ops4.toList=o40::l4
 hM:P.underlying tM=some (.map kM eM)
 nt:11<fn.ntmps
 k0:fx P fn.ntmps hn c0=some a0
 k1:fx P fn.ntmps hn c1=some a1
 kR:fx P fn.ntmps hn cR=some aR
 kT:fx P fn.ntmps hn cT=some aT
 k4:km P fn.ntmps ops4 l4=some s4
 kr:tc P fn.results.toList=some rs
 e0: ∀L, ∃S,ir T ow a0 (start [.mp 0] [k9 L])=some (.normal,S)/\ir T ow a1 S=some (.normal,stA L [])
 eB: ∀r L D a b v,D.length<1073741824-> ∃S1 S2 g S3,jP (Call T ow) ow s4 5001 (stE r L D a b v)=some S1/\ir T ow aR (trim v4 S1)=some (.normal,S2)/\dg S2 g=some S3/\
  S3.m=K3 L (if nzT (a,b,v)=true then D++[(a,b,v)] else D)/\S3.get 0= .mp 0/\S3.get 8=zH r/\S3.get 3= .sl 2000 0 (if nzT (a,b,v)=true then D++[(a,b,v)] else D).length
 v4s: ∀t,t∈v4\/t∉v4
 eT: ∀r L D,mW D=true->D.length<1073741824-> ∃S e,ir T ow aT (stB r L D)=some (e,S)/\(e= .normal\/e= .ret)/\ ∀kp,kP ⟨fn.ntmps,aT,rs,kp,false⟩ 1 (some (e,S))=some (a2S kp (fV D),a5j kp L (fV D))
section
variable {P:Program} {T:Tab} {ow:en} {fn:Func} {hn:IW}
theorem a8F (L D:List Tri) (t:Nat):(stA L D).get t=if t=0 then .mp 0 else if t=3 then .sl 2000 0 D.length else .undef:=by
 show (dO [(0,V.mp 0),(3,V.sl 2000 0 D.length)] t).getD .undef=_
 simp only [dO]
 by_cases h0:t=0
 ·simp [h0]
 ·by_cases h3:t=3
  ·simp [h3]
  ·rw [aa (Ne.symm h0),aa (Ne.symm h3),aa h0,aa h3];rfl
theorem xN (r:Nat) (L D:List Tri) (t:Nat):(stB r L D).get t=if t=0 then .mp 0 else if t=3 then .sl 2000 0 D.length else if t=8 then zH r else .undef:=by
 show (dO [(0,V.mp 0),(3,V.sl 2000 0 D.length),(8,zH r)] t).getD .undef=_
 simp only [dO]
 by_cases h0:t=0
 ·simp [h0]
 ·by_cases h3:t=3
  ·simp [h3]
  ·by_cases h8:t=8
   ·simp [h8]
   ·rw [aa (Ne.symm h0),aa (Ne.symm h3),aa (Ne.symm h8),aa h0,aa h3,aa h8];rfl
theorem b9Q (r:Nat) (L D:List Tri) (a b v:Int) (t:Nat):(stE r L D a b v).get t=if t=11 then .tup [.agg [.lit (.int .i64 a),.lit (.int .i64 b)],.lit (.int .i64 v)] else (stB r L D).get t:=by
 rw [xN]
 show (dO [(0,V.mp 0),(3,V.sl 2000 0 D.length),(8,zH r),(11,V.tup [.agg [.lit (.int .i64 a),.lit (.int .i64 b)],.lit (.int .i64 v)])] t).getD .undef=_
 simp only [dO]
 by_cases h0:t=0
 ·simp [h0]
 ·by_cases h3:t=3
  ·simp [h3]
  ·by_cases h8:t=8
   ·simp [h8]
   ·by_cases h11:t=11
    ·simp [h11]
    ·rw [aa (Ne.symm h0),aa (Ne.symm h3),aa (Ne.symm h8),aa (Ne.symm h11),aa h0,aa h3,aa h8,aa h11];rfl
theorem a3P (L D:List Tri):dO (K3 L D) 0=some (k9 L):=rfl
theorem hb0 (L:List Tri):bL [k9 L] 0=some (k9 L):=rfl
structure RJ [Frame] (n:Nat) (L:List Tri) (μ0:Mu) (w0:World) (c r:Nat) (seen:List Nat) (μ:Mu) (a:Act) (w:World):Prop where
 I:Inv n (stB r L (ww L seen)).get (dO (K3 L (ww L seen))) μ a w
 C:Chg μ0 (bL [k9 L]) w0 μ (bL [k9 L]) w
 st:pS μ r
 lo:w0.heap.size<=r
 hi:r<w.heap.size
 it:w.heap[r]? =some (itO c L.length seen)
 mu:μ 0=some c
 nd:seen.Nodup
 lt: ∀i∈seen,i<L.length
theorem a7Q [Frame] {μ:Mu} {h:aZ} {w:World} (H:bD μ h w) {L:List Tri} (hb:h 0=some (k9 L)): ∃c,μ 0=some c/\w.heap[c]? =some (.map (Bd L) L.length):=by
 rcases H.blk 0 _ hb with ⟨g1,_⟩|⟨g0,_⟩|⟨_,_,c,hc,hm⟩
 ·cases g1
 ·simp [k9] at g0
 ·exact ⟨c,hc,hm.es⟩
theorem b5E [Frame] {μ μ':Mu} {h:aZ} {w w':World} {L:List Tri} (C:Chg μ (bL [k9 L]) w μ' h w') (hb:h 0=some (k9 L)):Chg μ (bL [k9 L]) w μ' (bL [k9 L]) w':=by
 refine ⟨C.ev,fun b k hk=> ?_⟩
 obtain ⟨k',hk',hq⟩:=C.refs b k hk
 have hb0':b=0:=by
  have:=dw hk
  simp at this;exact this
 subst hb0'
 rw [hb] at hk';cases hk'
 exact ⟨k9 L,rfl,hq⟩
theorem b8m [Frame] {μ μ':Mu} {h:aZ} {w w':World} {L:List Tri} (C:Chg μ (bL [k9 L]) w μ' h w') (hb:h 0=some (k9 L)):μ' 0=μ 0:=by
 obtain ⟨k',hk',hq⟩:=C.refs 0 _ (hb0 L)
 rw [hb] at hk';cases hk'
 rcases hq with ⟨_,g⟩|⟨_,g,_⟩|⟨_,_,_,g,_⟩
 ·cases g
 ·simp [k9] at g
 ·exact g
theorem a68 [Frame] {μ:Mu} {h:aZ} {w:World} {L:List Tri} (hb:h 0=some (k9 L)):lr μ (bL [k9 L]) w μ h w:=
 ⟨⟨nv.refl _ _,fun b k hk=>by
   have hb0':b=0:=by
    have:=dw hk
    simp at this;exact this
   subst hb0'
   cases hk
   exact ⟨k9 L,hb,.inr (.inr ⟨rfl,fun _=>rfl,rfl,rfl,fun _ _=>rfl⟩)⟩⟩,fun b k hk=>by
   have:=dw hk
   simp at this;omega⟩
theorem b4k [Frame] {μ:Mu} {h:aZ} {w:World} (a b:Int):aX μ h w (.agg [.lit (.int .i64 a),.lit (.int .i64 b)]) (m3 a b):=by
 refine .agg _ _ rfl (fun v hv=> ?_) (fun i v hi=> ?_)
 ·simp at hv;rcases hv with rfl|rfl<;>rfl
 ·match i,hi with
  |0,hi=>simp at hi;subst hi;exact .lit _
  |1,hi=>simp at hi;subst hi;exact .lit _
theorem b4G [Frame] (hT:A9 P T) (hm:P.follows .mixedOrders=true) (E:b90 P T ow fn hn) {L:List Tri} (hL:L.length<1073741824) {μ0:Mu} {w0:World} (hfr: ∀c,Frame.fr c->c<w0.heap.size) {Q:Exit->Act->World->Prop} {c r:Nat}
 (K: ∀seen μ a w,RJ fn.ntmps L μ0 w0 c r seen μ a w->(∀i,i<L.length->i∈seen)->Q (.exit 0) a w) {seen:List Nat} {μ:Mu} {a:Act} {w:World} (J:RJ fn.ntmps L μ0 w0 c r seen μ a w):
 (Code.loop (.seq (.region 3 #[E.o30,E.o31] false) (.seq (.cond (.tmp 10) .skip (.exit 0)) (.block 1 (.seq (.region 4 E.ops4 false) E.cR))))).wp P Q a w:=by
 refine M8 (fun k a w=> ∃seen μ,RJ fn.ntmps L μ0 w0 c r seen μ a w/\a8a L.length seen+1<=k) (fun a w=>by rintro ⟨_,_,_,h⟩;omega) (fun k a w hT1=> ?_) ⟨seen,μ,J,aw _⟩
 clear J
 obtain ⟨seen,μ,J,hk⟩:=hT1
 have hsz:=J.I.sz
 have hnt:=E.nt
 obtain ⟨c',hc',hmap⟩:=a7Q J.I.H (a3P L _)
 rw [J.mu] at hc';cases hc'
 have h8:a.tmps.getD 8 undef= .pointer (some ⟨r,0,none⟩):=by
  have:=J.I.E 8
  rw [xN] at this
  simp only [show ¬(8:Nat)=0 by omega,show ¬(8:Nat)=3 by omega,if_false,if_true,zH] at this
  exact de this
 have hμr: ∀b,μ b≠some r:=J.st.1
 have hncell: ∀i,w.cell? ⟨r,i,none⟩=none:=fun i=>by simp [World.cell?,J.it,itO]
 refine wp_seq (wp_region ?_)
 show wpOps P #[E.o30,E.o31] _ [0,1] a w
 have hw30: ∀f,Region.wanted E.o30 f=true:=fun f=>by simp [Region.wanted,E.d30.2.1]
 have hw31: ∀f,Region.wanted E.o31 f=true:=fun f=>by simp [Region.wanted,E.d31.2.1]
 have hw40: ∀f,Region.wanted E.o40 f=true:=fun f=>by simp [Region.wanted,E.d40.2.1]
 simp only [wpOps,pr,ji,jg,hw30,hw31,if_true]
 refine .inl ?_
 unfold Oper.wp
 have e30:(execOp a.eval E.o30).run P w=((Instr.next (.pointer (some ⟨r,0,none⟩)) false E.o30.type).run P w).andThen fun v w'=> .ok (.value v) w':=by
  have:a.eval (.tmp 8)= .pointer (some ⟨r,0,none⟩):=h8
  simp [execOp,E.d30.2.2,this]
 have put9: ∀(x:Value) (w':World) (μ':Mu) (f:Nat->V) (h:aZ),Inv fn.ntmps f h μ' a w'-> ∀v,aX μ' h w' v x->Inv fn.ntmps (fun t=>if some 9=some t then v else f t) h μ' (a.put E.o30.dst x) w':=fun x w' μ' f h I v hv=>by
  rw [E.d30.1]
  exact I.put_skip (fun e he=>by cases he;omega) hv
 rcases b6A (ty:=E.o30.type) J.it hmap J.lt with ⟨hr,hall⟩|⟨j,t,w1,ht,hj,hw1,hr⟩
 ·
  rw [e30,hr,Result.andThen_ok,Oper.upon_value]
  refine .inl ?_
  have I9:=put9 (.tuple #[.bool false]) w μ _ _ J.I .undef (.unk _)
  have e31:(execOp (a.put E.o30.dst (.tuple #[.bool false])).eval E.o31).run P w= .ok (.value (.bool false)) w:=by
   have:(a.put E.o30.dst (.tuple #[.bool false])).eval (.tmp 9)= .tuple #[.bool false]:=by
    show (a.put E.o30.dst (.tuple #[.bool false])).tmps.getD 9 undef=_
    rw [CO (fun e he=>by rw [E.d30.1] at he;cases he;omega),E.d30.1,ae rfl]
   simp [execOp,E.d31.2.2,this,Instr.extract]
  rw [e31,Oper.upon_value]
  show Exit.then _ _ .normal _ _
  refine wp_seq ?_
  have I10:=I9.put_skip (d:=E.o31.dst) (v:= .lit (.bool false)) (x:= .bool false) (fun e he=>by rw [E.d31.1] at he;cases he;omega) (.lit _)
  have hev:((a.put E.o30.dst (.tuple #[.bool false])).put E.o31.dst (.bool false)).eval (.tmp 10)= .bool false:=by
   show ((a.put E.o30.dst (.tuple #[.bool false])).put E.o31.dst (.bool false)).tmps.getD 10 undef=_
   rw [CO (fun e he=>by rw [E.d31.1] at he;cases he;rw [Act.put_size];omega),E.d31.1,ae rfl]
  refine wp_cond_false hev (wp_exit ?_)
  show Q (.exit 0) _ _
  refine K seen μ _ w ⟨?_,J.C,J.st,J.lo,J.hi,J.it,J.mu,J.nd,J.lt⟩ hall
  refine I10.weak (fun t=> ?_)
  rw [E.d31.1]
  by_cases h10:10=t
  ·subst h10;right;rw [xN];simp
  ·by_cases h9:9=t
   ·subst h9;right;rw [xN];simp
   ·left
    simp [h10,h9]
 ·
  have hlt:j<L.length:=(dh.1 ht).1
  have w1h:w1.heap=w.heap:=by rcases hw1 with rfl|rfl<;>rfl
  have w1s:w1.os=w.os/\w1.tape=w.tape/\w1.output=w.output/\w.drawn<=w1.drawn:=by rcases hw1 with rfl|rfl<;>exact ⟨rfl,rfl,rfl,by first|exact aw _|exact mS _⟩
  let w2:=Bs w1 r (itO c L.length (seen++[j]))
  have hr1:r<w1.heap.size:=by rw [w1h];exact J.hi
  have S2:b0H r w w2:=⟨fun c hc=>by rw [show w2=Bs w1 r _ from rfl,HM hc,w1h],by simp [w2,Bs,w1h],hncell⟩
  have H2:=J.I.H.side S2 hμr
  have I2:Inv fn.ntmps (stB r L (ww L seen)).get (dO (K3 L (ww L seen))) μ a w2:=⟨H2,fun t=>(J.I.E t).side S2 hμr,J.I.sz,J.I.df⟩
  have C2:Chg μ0 (bL [k9 L]) w0 μ (bL [k9 L]) w2:=J.C.side S2 hμr J.lo hfr w1s.1 w1s.2.1 w1s.2.2.1 w1s.2.2.2
  have it2:w2.heap[r]? =some (itO c L.length (seen++[j])):=ZJ hr1
  have hi2:r<w2.heap.size:=by rw [S2.sz];exact J.hi
  have map2:w2.heap[c]? =some (.map (Bd L) L.length):=by
   rw [S2.ne c (fun e=>hμr 0 (by rw [J.mu,e]))];exact hmap
  rw [e30,hr,Result.andThen_ok,Oper.upon_value]
  refine .inl ?_
  have I9:=put9 (.tuple #[.bool true,m3 t.1 t.2.1,.int .i64 t.2.2]) w2 μ _ _ I2 .undef (.unk _)
  have e31:(execOp (a.put E.o30.dst (.tuple #[.bool true,m3 t.1 t.2.1,.int .i64 t.2.2])).eval E.o31).run P w2= .ok (.value (.bool true)) w2:=by
   have:(a.put E.o30.dst (.tuple #[.bool true,m3 t.1 t.2.1,.int .i64 t.2.2])).eval (.tmp 9)= .tuple #[.bool true,m3 t.1 t.2.1,.int .i64 t.2.2]:=by
    show (a.put E.o30.dst _).tmps.getD 9 undef=_
    rw [CO (fun e he=>by rw [E.d30.1] at he;cases he;omega),E.d30.1,ae rfl]
   simp [execOp,E.d31.2.2,this,Instr.extract]
  rw [e31,Oper.upon_value]
  show Exit.then _ _ .normal _ _
  refine wp_seq ?_
  have I10:=I9.put_skip (d:=E.o31.dst) (v:= .lit (.bool true)) (x:= .bool true) (fun e he=>by rw [E.d31.1] at he;cases he;omega) (.lit _)
  generalize ha2:(a.put E.o30.dst (.tuple #[.bool true,m3 t.1 t.2.1,.int .i64 t.2.2])).put E.o31.dst (.bool true)=a2 at I10
  have hsz2:fn.ntmps<=a2.tmps.size:=I10.sz
  have hev:a2.eval (.tmp 10)= .bool true:=by
   rw [<-ha2]
   show ((a.put E.o30.dst _).put E.o31.dst (.bool true)).tmps.getD 10 undef=_
   rw [CO (fun e he=>by rw [E.d31.1] at he;cases he;rw [Act.put_size];omega),E.d31.1,ae rfl]
  refine wp_cond_true hev (wp_skip ?_)
  show Code.wp P _ _ a2 w2
  have IB:Inv fn.ntmps (stB r L (ww L seen)).get (dO (K3 L (ww L seen))) μ a2 w2:=I10.weak (fun t=>by
   rw [E.d31.1]
   by_cases h10:10=t
   ·subst h10;right;rw [xN];simp
   ·by_cases h9:9=t
    ·subst h9;right;rw [xN];simp
    ·left
     simp [h10,h9])
  have h8':a2.eval (.tmp 8)= .pointer (some ⟨r,0,none⟩):=by
   have:=IB.E 8
   rw [xN] at this
   simp only [show ¬(8:Nat)=0 by omega,show ¬(8:Nat)=3 by omega,if_false,if_true,zH] at this
   exact de this
  refine wp_block (wp_seq (wp_region ?_))
  have hops:E.ops4=(E.o40::E.l4).toArray:=by rw [<-E.e4]
  have hsize:E.ops4.size=E.l4.length+1:=by rw [hops];simp
  rw [hsize,List.range_eq_range',List.range'_succ]
  have hg0:E.ops4[0]? =some E.o40:=by rw [hops];rfl
  simp only [wpOps,hg0,hw40,if_true]
  refine .inl ?_
  unfold Oper.wp
  have e40:(execOp a2.eval E.o40).run P w2= .ok (.value (.tuple #[m3 t.1 t.2.1,.int .i64 t.2.2])) w2:=by
   simp [execOp,E.d40.2.2,h8',b0o it2 map2 ht]
  rw [e40,Oper.upon_value]
  have vt: ∀{μ:Mu} {h:aZ} {w:World},aX μ h w (.tup [.agg [.lit (.int .i64 t.1),.lit (.int .i64 t.2.1)],.lit (.int .i64 t.2.2)]) (.tuple #[m3 t.1 t.2.1,.int .i64 t.2.2]):= .tup _ _ rfl (fun i v hi=>by
   match i,hi with
   |0,hi=>simp at hi;subst hi;exact b4k _ _
   |1,hi=>simp at hi;subst hi;exact .lit _)
  have I11:=IB.put_skip (d:=E.o40.dst) (fun e he=>by rw [E.d40.1] at he;cases he;omega) vt
  have IE:Inv fn.ntmps (stE r L (ww L seen) t.1 t.2.1 t.2.2).get (dO (K3 L (ww L seen))) μ (a2.put E.o40.dst (.tuple #[m3 t.1 t.2.1,.int .i64 t.2.2])) w2:=I11.weak (fun q=>by
   left
   rw [b9Q,E.d40.1]
   by_cases h:q=11
   ·subst h;simp
   ·rw [aa h,aa (by simpa using Ne.symm h)])
  have hDl:(ww L seen).length<1073741824:=by
   have h1:=a3v L seen
   have h2:=a2u J.nd J.lt
   omega
  obtain ⟨X1,X2,g,X3,x1,x2,x3,x4,x5,x6,x7⟩:=E.eB r L (ww L seen) t.1 t.2.1 t.2.2 hDl
  have hD':(if nzT (t.1,t.2.1,t.2.2)=true then ww L seen++[(t.1,t.2.1,t.2.2)] else ww L seen)=ww L (seen++[j]):=(b2g ht).symm
  rw [hD'] at x4 x7
  refine H6 (P:=P) (C:=Call T ow) (DV hT) (ow:=ow) (n:=fn.ntmps) (ops:=E.ops4) (μ0:=μ) (h0:=bL [k9 L]) (w0:=w2) E.l4 E.s4 1 5001 (stE r L (ww L seen) t.1 t.2.1 t.2.2) X1 μ (a2.put E.o40.dst (.tuple #[m3 t.1 t.2.1,.int .i64 t.2.2])) w2
   (fun q hq=>by rw [hops,jp];simp) E.k4 x1 IE (a68 (a3P L _)) (fun μ' a' w' I' S'=> ?_)
  show Code.wp P E.cR _ a' w'
  have I'':=I'.trim E.v4
  refine Eh hT hm E.kR x2 I'' S' (fun μ3 a3 w3 I3 S3=> ?_)
  obtain ⟨μ4,I4,S4⟩:=O2 x3 I3 S3
  show ∃seen μ,RJ fn.ntmps L μ0 w0 c r seen μ a3 w3/\a8a L.length seen+1<=k
  have hh:X3.heap=dO (K3 L (ww L (seen++[j]))):=by show dO X3.m=_;rw [x4]
  have h0:X3.heap 0=some (k9 L):=by rw [hh];rfl
  obtain ⟨k1,k2⟩:=S4.C.ev.keep r hi2 J.st
  refine ⟨seen++[j],μ4,⟨?_,C2.trans (b5E S4.C h0),k2,J.lo,bR hi2 S4.C.ev.size,k1.trans it2,(b8m S4.C h0).trans J.mu, ?_, ?_⟩, ?_⟩
  ·rw [<-hh]
   refine I4.weak (fun q=> ?_)
   rw [xN]
   by_cases q0:q=0
   ·subst q0;left;rw [ae rfl,x5]
   ·by_cases q3:q=3
    ·subst q3;left;rw [aa (by omega),ae rfl,x7]
    ·by_cases q8:q=8
     ·subst q8;left;rw [aa (by omega),aa (by omega),ae rfl,x6]
     ·right;rw [aa q0,aa q3,aa q8]
  ·exact jV.2 ⟨J.nd,by simp,fun x hx y hy=>by simp at hy;subst hy;intro e;exact hj (e▸hx)⟩
  ·intro i hi
   rcases aW.1 hi with hi|hi
   ·exact J.lt i hi
   ·simp at hi;subst hi;exact hlt
  ·have:=b7F hlt hj;omega
end
end
section
section
variable {P:Program} {T:Tab} {ow:en} {fn:Func} {hn:IW}
theorem b8t (kp:Bool) [inst:Frame] (hT:A9 P T) (hm:P.follows .mixedOrders=true) (E:b90 P T ow fn hn) {f:FuncId} (hf:P.funcs[f]? =some fn) {L:List Tri} (hk:mW L=true) (hL:L.length<1073741824) {μ:Mu} {w:World} {x:Value}
 (H:bD μ (bL [k9 L]) w) (hx:aX μ (bL [k9 L]) w (.mp 0) x):
 Calls P f #[x] w (fun| .returned v,w'=>nD inst μ (bL [k9 L]) w (a2S kp (fV (L.filter nzT))) (a5j kp L (fV (L.filter nzT))) v w'|_,_=>False):=by
 refine calls_of_wp hf E.body ?_
 have hheap:(start [.mp 0] [k9 L]).heap=bL [k9 L]:=by
  funext i
  show dO (rC 0 [k9 L]) i=[k9 L][i]?
  rw [wh];simp
 have hget: ∀t,(start [.mp 0] [k9 L]).get t=if t=0 then .mp 0 else .undef:=by
  intro t
  show (dO (rC 0 [V.mp 0]) t).getD .undef=_
  rw [wh]
  cases t with
  |zero=>simp
  |succ t=>simp
 have I0:Inv fn.ntmps (start [.mp 0] [k9 L]).get (start [.mp 0] [k9 L]).heap μ { tmps:= #[x]++Array.replicate (fn.ntmps-1) undef,defers:=[] } w:=by
  have:=E.nt
  refine ⟨by rw [hheap];exact H,fun t=> ?_,by simp;omega,rfl⟩
  rw [hget,hheap]
  by_cases h0:t=0
  ·subst h0
   rw [ae rfl]
   have hx0:(#[x]++Array.replicate (fn.ntmps-1) undef).getD 0 undef=x:=by
    rw [Array.getD_eq_getD_getElem?,fj (by simp)];rfl
   rw [<-hx0] at hx
   exact hx
  ·rw [aa h0];exact .unk _
 have S0:lr μ (bL [k9 L]) w μ (start [.mp 0] [k9 L]).heap w:=by
  rw [hheap]
  exact ⟨Chg.refl _ _ _,fun b k hk=>by have:=dw hk;simp at this;omega⟩
 obtain ⟨X,e0,e1⟩:=E.e0 L
 refine wp_seq (Eh hT hm E.k0 e0 I0 S0 (fun μ1 a1 w1 I1 S1=> ?_))
 show Code.wp P _ _ a1 w1
 refine wp_seq (Eh hT hm E.k1 e1 I1 S1 (fun μ2 a2 w2 I2 S2=> ?_))
 show Code.wp P _ _ a2 w2
 have hh:(stA L []).heap=dO (K3 L []):=rfl
 rw [hh] at I2 S2
 have hsz:=I2.sz
 have hnt:=E.nt
 obtain ⟨c,hc,hmap⟩:=a7Q I2.H (a3P L [])
 have h0:a2.tmps.getD 0 undef= .map (some c):=by
  have:=I2.E 0
  rw [a8F,ae rfl] at this
  generalize a2.tmps.getD 0 undef=y at this
  cases this with
  |mp _ _ k hk' hx' hmm=>
   rw [a3P] at hk';cases hk'
   obtain ⟨c',h1,h2⟩:=hmm rfl rfl
   rw [hc] at h1;cases h1
   exact h2
 refine wp_seq (wp_seq (wp_region ?_))
 show wpOps P #[E.o20,E.o21] _ [0,1] a2 w2
 have hw20: ∀f,Region.wanted E.o20 f=true:=fun f=>by simp [Region.wanted,E.d20.2.1]
 have hw21: ∀f,Region.wanted E.o21 f=true:=fun f=>by simp [Region.wanted,E.d21.2.1]
 simp only [wpOps,pr,ji,jg,hw20,hw21,if_true]
 refine .inl ?_
 unfold Oper.wp
 have e20:(execOp a2.eval E.o20).run P w2= .ok (.value (.map (some c))) w2:=by
  have:a2.eval (.tmp 0)= .map (some c):=h0
  simp [execOp,E.d20.2.2,this]
 rw [e20,Oper.upon_value]
 refine .inl ?_
 have I7:=I2.put_skip (d:=E.o20.dst) (v:= .undef) (x:= .map (some c)) (fun e he=>by rw [E.d20.1] at he;cases he;omega) (.unk _)
 have e21:(execOp (a2.put E.o20.dst (.map (some c))).eval E.o21).run P w2= .ok (.value (.pointer (some ⟨w2.heap.size,0,none⟩))) (mV w2 (itO c L.length [])):=by
  have:(a2.put E.o20.dst (.map (some c))).eval (.tmp 7)= .map (some c):=by
   show (a2.put E.o20.dst _).tmps.getD 7 undef=_
   rw [CO (fun e he=>by rw [E.d20.1] at he;cases he;omega),E.d20.1,ae rfl]
  simp [execOp,E.d21.2.2,this,b0j E.hM hmap]
 rw [e21,Oper.upon_value]
 show Exit.then _ _ .normal _ _
 have g:=md w2 (itO c L.length [])
 generalize hw3:mV w2 (itO c L.length [])=w3 at g ⊢
 have hat:w3.heap[w2.heap.size]? =some (itO c L.length []):=by rw [<-hw3];exact qf _ _
 have hs3:w2.heap.size<w3.heap.size:=by rw [<-hw3];show _<(w2.heap.push _).size;rw [Array.size_push];omega
 have C3:=g.chg I2.H
 have I3:Inv fn.ntmps (fun t=>if E.o20.dst=some t then V.undef else (stA L []).get t) (dO (K3 L [])) μ2 (a2.put E.o20.dst (.map (some c))) w3:=
  ⟨I2.H.grown g,fun t=>(I7.E t).chg C3,I7.sz,I7.df⟩
 have I8:=I3.put_skip (d:=E.o21.dst) (v:=zH w2.heap.size) (x:= .pointer (some ⟨w2.heap.size,0,none⟩)) (fun e he=>by rw [E.d21.1] at he;cases he;omega) (.lit _)
 generalize (a2.put E.o20.dst (.map (some c))).put E.o21.dst (.pointer (some ⟨w2.heap.size,0,none⟩))=a3 at I8
 have S3C:Chg μ (bL [k9 L]) w μ2 (bL [k9 L]) w3:=by
  refine (b5E S2.C (a3P L [])).trans ⟨C3.ev,fun b k hk=>⟨k,hk, ?_⟩⟩
  refine .inr (.inr ⟨rfl,fun _=>rfl,rfl,rfl,fun c' hc'=>g.bsize (I2.H.lt hc')⟩)
 have hsz1:w.heap.size<=w2.heap.size:=S2.C.ev.size
 have J:RJ fn.ntmps L μ w c w2.heap.size [] μ2 a3 w3:=by
  refine ⟨I8.weak (fun t=> ?_),S3C,⟨fun b hb=>by have:=I2.H.lt hb;omega,fun hfr=>by have:=I2.H.frlt _ hfr;omega⟩,hsz1,hs3,hat,hc,jG,fun i hi=>by simp at hi⟩
  rw [E.d20.1,E.d21.1,xN,a8F]
  show (if t=0 then V.mp 0 else if t=3 then V.sl 2000 0 0 else if t=8 then zH w2.heap.size else V.undef)=_\/_
  by_cases h0:t=0
  ·subst h0;left;simp
  ·by_cases h3:t=3
   ·subst h3;left;simp
   ·by_cases h8:t=8
    ·subst h8;left;simp
    ·right;rw [aa h0,aa h3,aa h8]
 refine wp_block (b4G hT hm E hL (fun c hc=>H.frlt c hc) (fun seen μ' a' w' J' hall=> ?_) J)
 simp only [Exit.inBlock,if_true]
 show Code.wp P E.cT _ a' w'
 have hDk:mW (ww L seen)=true:=a5z (a4a J'.nd J'.lt hall).symm (Mw nzT hk)
 have hDl:(ww L seen).length<1073741824:=by
  have h1:=a3v L seen
  have h2:=a2u J'.nd J'.lt
  omega
 obtain ⟨Y,e,t1,t2,t3⟩:=E.eT w2.heap.size L (ww L seen) hDk hDl
 have SB:lr μ (bL [k9 L]) w μ' (stB w2.heap.size L (ww L seen)).heap w':=by
  refine ⟨⟨J'.C.ev,fun b k hk=> ?_⟩,S0.lo⟩
  obtain ⟨k',hk',hq⟩:=J'.C.refs b k hk
  have hb0':b=0:=by
   have:=dw hk
   simp at this;exact this
  subst hb0'
  cases hk'
  exact ⟨k9 L,rfl,hq⟩
 refine Eh hT hm E.kT t1 J'.I SB (fun μ4 a4 w4 I4 S4=> ?_)
 rw [show fV (L.filter nzT)=fV (ww L seen) from (a4D (Mw nzT hk) (a4a J'.nd J'.lt hall)).symm]
 obtain ⟨v,h1,h2⟩:=Ms (blks:=[k9 L]) (af:=⟨fn.ntmps,E.aT,E.rs,kp,false⟩) I4 S4 E.kr t2 (t3 kp)
 rcases t2 with rfl|rfl<;>exact ⟨I4.df,v,h1,h2⟩
end
theorem c3Q (kp:Bool) {P:Program} {T:Tab} {ow:en} {fn:Func} {hn:IW} (hT:A9 P T) (hm:P.follows .mixedOrders=true) (E:b90 P T ow fn hn) {f:FuncId} (hf:P.funcs[f]? =some fn)
 (eF: ∀args w,(callFunc f args).run P w= .ok (.enter f args) w):NO P f (a5v kp):=by
 intro args blks r blks' h F μ w xs H hl hv
 unfold a5v at h
 split at h
 ·rename_i cs
  split at h
  ·rename_i L hL
   split at h
   ·rename_i hc
    cases h
    have hcs:=Ag hL
    subst hcs
    have hxs:xs= #[xs.getD 0 undef]:=by
     apply Array.ext
     ·simpa using hl
     ·intro i h1 h2
      match i,h1 with
      |0,h=>simp [Array.getD_eq_getD_getElem?,aL h]
    have hx0:=hv 0 _ rfl
    generalize xs.getD 0 undef=X0 at hx0 hxs
    subst hxs
    have hrun:= @b8t P T ow fn hn kp F hT hm E f hf L hc.1 hc.2 μ w X0 H hx0
    refine Reach.mono (.inr ⟨eF _ _,hrun⟩) (fun v w' hp=> ?_)
    exact hp.czR
   ·cases h
  ·cases h
 ·cases h
end
end Go.AI
