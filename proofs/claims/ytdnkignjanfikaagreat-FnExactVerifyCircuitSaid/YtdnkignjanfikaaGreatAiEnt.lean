/- Part. -/
import Derived.Test.YtdnkignjanfikaaGreatAiEnt1
set_option linter.unusedVariables false
set_option linter.unusedSimpArgs false
namespace Go.AI
section
def jT (L:List Tri):Blk:=⟨0,true,[bz L]⟩
def c8I (D:List Tri):Blk:=⟨3,false,D.map kO⟩
def zh (r:Nat):V:= .lit (.pointer (some ⟨r,0,none⟩))
def Jx (L D:List Tri):List (Nat×Blk):=[(0,jT L),(2000,c8I D)]
def stA (L D:List Tri):St:=⟨[(0,.mp 0),(3,.sl 2000 0 D.length)],Jx L D⟩
def stB (r:Nat) (L D:List Tri):St:=⟨[(0,.mp 0),(3,.sl 2000 0 D.length),(8,zh r)],Jx L D⟩
def stE (r:Nat) (L D:List Tri) (a b v:Int):St:=⟨[(0,.mp 0),(3,.sl 2000 0 D.length),(8,zh r),(11,.tup [.agg [.lit (.int .i64 a),.lit (.int .i64 b)],.lit (.int .i64 v)])],Jx L D⟩
def a3p (kp:Bool) (D:List Tri):V:=bif kp then .sl 1 0 D.length else .imm 3 (D.map kO)
def a2J (kp:Bool) (L D:List Tri):List Blk:=bif kp then [jT L,⟨3,false,D.map kO⟩] else [jT L]
def a5Y (kp:Bool):List V->List Blk->Option (V×List Blk)
 |[.mp 0],[⟨0,true,[cs]⟩]=>match Mo cs with
  |some L=>if ms L=true/\L.length<1073741824 then some ((a3p kp (fV (L.filter nzT))).czR,a2J kp L (fV (L.filter nzT))) else none
  |none=>none
 |_,_=>none
structure c0t (P:Program) (T:Tab) (ow:ec) (fn:Func) (hn:Im) where
 c0:Code
 c1:Code
 cR:Code
 cT:Code
 o20:Oper
 o21:Oper
 o30:Oper
 o31:Oper
 ops4:Array Oper
 o40:Oper
 l4:List Oper
 tM:TypeId
 kM:TypeId
 eM:TypeId
 a0:aQ
 a1:aQ
 aR:aQ
 aT:aQ
 s4:List cn
 v4:List Nat
 rs:List Kv
 body:fn.body=some (.seq c0 (.seq c1 (.seq (.seq (.region 2 #[o20,o21] false) (.block 0 (.loop (.seq (.region 3 #[o30,o31] false) (.seq (.cond (.tmp 10) .skip (.exit 0)) (.block 1 (.seq (.region 4 ops4 false) cR))))))) cT)))
 d20:o20.dst=some 7/\o20.guard=none/\o20.op= .move (.tmp 0)
 d21:o21.dst=some 8/\o21.guard=none/\o21.op= .range tM (.tmp 7)
 d30:o30.dst=some 9/\o30.guard=none/\o30.op= .next (.tmp 8) false
 d31:o31.dst=some 10/\o31.guard=none/\o31.op= .extract (.tmp 9) 0
 d40:o40.dst=some 11/\o40.guard=none/\o40.op= .entry (.tmp 8)
 e4:ops4.toList=o40::l4
 hM:P.underlying tM=some (.map kM eM)
 nt:11<fn.ntmps
 k0:fk P fn.ntmps hn c0=some a0
 k1:fk P fn.ntmps hn c1=some a1
 kR:fk P fn.ntmps hn cR=some aR
 kT:fk P fn.ntmps hn cT=some aT
 k4:jX P fn.ntmps ops4 l4=some s4
 kr:s7 P fn.results.toList=some rs
 e0: ∀L, ∃S,il T ow a0 (start [.mp 0] [jT L])=some (.normal,S)/\il T ow a1 S=some (.normal,stA L [])
 eB: ∀r L D a b v,D.length<1073741824-> ∃S1 S2 g S3,jH (Call T ow) ow s4 5001 (stE r L D a b v)=some S1/\il T ow aR (trim v4 S1)=some (.normal,S2)/\dd S2 g=some S3/\
  S3.m=Jx L (if nzT (a,b,v)=true then D++[(a,b,v)] else D)/\S3.get 0= .mp 0/\S3.get 8=zh r/\S3.get 3= .sl 2000 0 (if nzT (a,b,v)=true then D++[(a,b,v)] else D).length
 v4s: ∀t,t∈v4\/t∉v4
 eT: ∀r L D,ms D=true->D.length<1073741824-> ∃S e,il T ow aT (stB r L D)=some (e,S)/\(e= .normal\/e= .ret)/\ ∀kp,kG ⟨fn.ntmps,aT,rs,kp,false⟩ 1 (some (e,S))=some (a3p kp (fV D),a2J kp L (fV D))
section
variable {P:Program} {T:Tab} {ow:ec} {fn:Func} {hn:Im}
theorem a7J (L D:List Tri) (t:Nat):(stA L D).get t=if t=0 then .mp 0 else if t=3 then .sl 2000 0 D.length else .undef:=by
 show (dP [(0,V.mp 0),(3,V.sl 2000 0 D.length)] t).getD .undef=_
 simp only [dP]
 by_cases h0:t=0
 ·simp [h0]
 ·by_cases a:t=3
  ·simp [a]
  ·rw [aa (Ne.symm h0),aa (Ne.symm a),aa h0,aa a];rfl
theorem xx (r:Nat) (L D:List Tri) (t:Nat):(stB r L D).get t=if t=0 then .mp 0 else if t=3 then .sl 2000 0 D.length else if t=8 then zh r else .undef:=by
 show (dP [(0,V.mp 0),(3,V.sl 2000 0 D.length),(8,zh r)] t).getD .undef=_
 simp only [dP]
 by_cases h0:t=0
 ·simp [h0]
 ·by_cases a:t=3
  ·simp [a]
  ·by_cases b:t=8
   ·simp [b]
   ·rw [aa (Ne.symm h0),aa (Ne.symm a),aa (Ne.symm b),aa h0,aa a,aa b];rfl
theorem c1A (r:Nat) (L D:List Tri) (a b v:Int) (t:Nat):(stE r L D a b v).get t=if t=11 then .tup [.agg [.lit (.int .i64 a),.lit (.int .i64 b)],.lit (.int .i64 v)] else (stB r L D).get t:=by
 rw [xx]
 show (dP [(0,V.mp 0),(3,V.sl 2000 0 D.length),(8,zh r),(11,V.tup [.agg [.lit (.int .i64 a),.lit (.int .i64 b)],.lit (.int .i64 v)])] t).getD .undef=_
 simp only [dP]
 by_cases h0:t=0
 ·simp [h0]
 ·by_cases d:t=3
  ·simp [d]
  ·by_cases e:t=8
   ·simp [e]
   ·by_cases c:t=11
    ·simp [c]
    ·rw [aa (Ne.symm h0),aa (Ne.symm d),aa (Ne.symm e),aa (Ne.symm c),aa h0,aa d,aa e,aa c];rfl
theorem ZW (L D:List Tri):dP (Jx L D) 0=some (jT L):=rfl
theorem hb0 (L:List Tri):bJ [jT L] 0=some (jT L):=rfl
structure RJ [Frame] (n:Nat) (L:List Tri) (μ0:Mu) (w0:World) (c r:Nat) (seen:List Nat) (μ:Mu) (a:Act) (w:World):Prop where
 I:Inv n (stB r L (uY L seen)).get (dP (Jx L (uY L seen))) μ a w
 C:Chg μ0 (bJ [jT L]) w0 μ (bJ [jT L]) w
 st:pd μ r
 lo:w0.heap.size<=r
 hi:r<w.heap.size
 it:w.heap[r]? =some (itO c L.length seen)
 mu:μ 0=some c
 nd:seen.Nodup
 lt: ∀i∈seen,i<L.length
theorem a6J [Frame] {μ:Mu} {h:b8} {w:World} (H:bB μ h w) {L:List Tri} (a:h 0=some (jT L)): ∃c,μ 0=some c/\w.heap[c]? =some (.map (AY L) L.length):=by
 rcases H.blk 0 _ a with ⟨b,_⟩|⟨d,_⟩|⟨_,_,c,e,f⟩
 ·cases b
 ·simp [jT] at d
 ·exact ⟨c,e,f.es⟩
theorem b2T [Frame] {μ μ':Mu} {h:b8} {w w':World} {L:List Tri} (C:Chg μ (bJ [jT L]) w μ' h w') (f:h 0=some (jT L)):Chg μ (bJ [jT L]) w μ' (bJ [jT L]) w':=by
 refine ⟨C.ev,fun b k e=> ?_⟩
 obtain ⟨k',a,i⟩:=C.refs b k e
 c d:b=0:=by
   c:=dv e
   simp at this;exact this
 subst d
 rw [f] at a;cases a
 exact ⟨jT L,rfl,i⟩
theorem c03 [Frame] {μ μ':Mu} {h:b8} {w w':World} {L:List Tri} (C:Chg μ (bJ [jT L]) w μ' h w') (b:h 0=some (jT L)):μ' 0=μ 0:=by
 obtain ⟨k',a,c⟩:=C.refs 0 _ (hb0 L)
 rw [b] at a;cases a
 rcases c with ⟨_,g⟩|⟨_,g,_⟩|⟨_,_,_,g,_⟩
 ·cases g
 ·simp [jT] at g
 ·exact g
theorem a5v [Frame] {μ:Mu} {h:b8} {w:World} {L:List Tri} (e:h 0=some (jT L)):l8 μ (bJ [jT L]) w μ h w:=
 ⟨⟨n0.refl _ _,fun b k d=>by
   a c:b=0:=by
     a:=dv d
     simp at this;exact this
   subst c
   cases d
   exact ⟨jT L,e,.inr (.inr ⟨rfl,fun _=>rfl,rfl,rfl,fun _ _=>rfl⟩)⟩⟩,fun b k d=>by
   a:=dv d
   simp at this;omega⟩
theorem b6P [Frame] {μ:Mu} {h:b8} {w:World} (a b:Int):aY μ h w (.agg [.lit (.int .i64 a),.lit (.int .i64 b)]) (lQ a b):=by
 refine .agg _ _ rfl (fun v c=> ?_) (fun i v hi=> ?_)
 ·simp at c;rcases c with rfl|rfl<;>rfl
 ·match i,hi with
  |0,hi=>simp at hi;subst hi;exact .lit _
  |1,hi=>simp at hi;subst hi;exact .lit _
theorem b5X [Frame] (hT:Ad P T) (hm:P.follows .mixedOrders=true) (E:c0t P T ow fn hn) {L:List Tri} (hL:L.length<1073741824) {μ0:Mu} {w0:World} (hfr: ∀c,Frame.fr c->c<w0.heap.size) {Q:Exit->Act->World->Prop} {c r:Nat}
 (K: ∀seen μ a w,RJ fn.ntmps L μ0 w0 c r seen μ a w->(∀i,i<L.length->i∈seen)->Q (.exit 0) a w) {seen:List Nat} {μ:Mu} {a:Act} {w:World} (J:RJ fn.ntmps L μ0 w0 c r seen μ a w):
 (Code.loop (.seq (.region 3 #[E.o30,E.o31] false) (.seq (.cond (.tmp 10) .skip (.exit 0)) (.block 1 (.seq (.region 4 E.ops4 false) E.cR))))).wp P Q a w:=by
 refine Ld (fun k a w=> ∃seen μ,RJ fn.ntmps L μ0 w0 c r seen μ a w/\a7F L.length seen+1<=k) (fun a w=>by rintro ⟨_,_,_,h⟩;omega) (fun k a w hT1=> ?_) ⟨seen,μ,J,aw _⟩
 clear J
 obtain ⟨seen,μ,J,hk⟩:=hT1
 l hsz:=J.I.sz
 l hnt:=E.nt
 obtain ⟨c',hc',hmap⟩:=a6J J.I.H (ZW L _)
 rw [J.mu] at hc';cases hc'
 l h8:a.tmps.getD 8 undef= .pointer (some ⟨r,0,none⟩):=by
   l:=J.I.E 8
   rw [xx] at this
   simp only [show ¬(8:Nat)=0 by omega,show ¬(8:Nat)=3 by omega,if_false,if_true,zh] at this
   exact de this
 l hμr: ∀b,μ b≠some r:=J.st.1
 l z: ∀i,w.cell? ⟨r,i,none⟩=none:=fun i=>by simp [World.cell?,J.it,itO]
 refine wp_seq (wp_region ?_)
 show wpOps P #[E.o30,E.o31] _ [0,1] a w
 l hw30: ∀f,Region.wanted E.o30 f=true:=fun f=>by simp [Region.wanted,E.d30.2.1]
 l hw31: ∀f,Region.wanted E.o31 f=true:=fun f=>by simp [Region.wanted,E.d31.2.1]
 l hw40: ∀f,Region.wanted E.o40 f=true:=fun f=>by simp [Region.wanted,E.d40.2.1]
 simp only [wpOps,oW,ja,j2,hw30,hw31,if_true]
 refine .inl ?_
 unfold Oper.wp
 l e30:(execOp a.eval E.o30).run P w=((Instr.next (.pointer (some ⟨r,0,none⟩)) false E.o30.type).run P w).andThen fun v w'=> .ok (.value v) w':=by
   l:a.eval (.tmp 8)= .pointer (some ⟨r,0,none⟩):=h8
   simp [execOp,E.d30.2.2,this]
 l put9: ∀(x:Value) (w':World) (μ':Mu) (f:Nat->V) (h:b8),Inv fn.ntmps f h μ' a w'-> ∀v,aY μ' h w' v x->Inv fn.ntmps (fun t=>if some 9=some t then v else f t) h μ' (a.put E.o30.dst x) w':=fun x w' μ' f h I v hv=>by
   rw [E.d30.1]
   exact I.put_skip (fun e o=>by cases o;omega) hv
 rcases b5k (ty:=E.o30.type) J.it hmap J.lt with ⟨hr,hall⟩|⟨j,t,w1,ht,hj,hw1,hr⟩
 ·
  rw [e30,hr,Result.andThen_ok,Oper.upon_value]
  refine .inl ?_
  l I9:=put9 (.tuple #[.bool false]) w μ _ _ J.I .undef (.unk _)
  l e31:(execOp (a.put E.o30.dst (.tuple #[.bool false])).eval E.o31).run P w= .ok (.value (.bool false)) w:=by
    l:(a.put E.o30.dst (.tuple #[.bool false])).eval (.tmp 9)= .tuple #[.bool false]:=by
     show (a.put E.o30.dst (.tuple #[.bool false])).tmps.getD 9 undef=_
     rw [BB (fun e o=>by rw [E.d30.1] at o;cases o;omega),E.d30.1,ae rfl]
    simp [execOp,E.d31.2.2,this,Instr.extract]
  rw [e31,Oper.upon_value]
  show Exit.then _ _ .normal _ _
  refine wp_seq ?_
  l I10:=I9.put_skip (d:=E.o31.dst) (v:= .lit (.bool false)) (x:= .bool false) (fun e o=>by rw [E.d31.1] at o;cases o;omega) (.lit _)
  l hev:((a.put E.o30.dst (.tuple #[.bool false])).put E.o31.dst (.bool false)).eval (.tmp 10)= .bool false:=by
    show ((a.put E.o30.dst (.tuple #[.bool false])).put E.o31.dst (.bool false)).tmps.getD 10 undef=_
    rw [BB (fun e o=>by rw [E.d31.1] at o;cases o;rw [Act.put_size];omega),E.d31.1,ae rfl]
  refine wp_cond_false hev (wp_exit ?_)
  show Q (.exit 0) _ _
  refine K seen μ _ w ⟨?_,J.C,J.st,J.lo,J.hi,J.it,J.mu,J.nd,J.lt⟩ hall
  refine I10.weak (fun t=> ?_)
  rw [E.d31.1]
  by_cases s:10=t
  ·subst s;right;rw [xx];simp
  ·by_cases h9:9=t
   ·subst h9;right;rw [xx];simp
   ·left
    simp [s,h9]
 ·
  l hlt:j<L.length:=(dg.1 ht).1
  l w1h:w1.heap=w.heap:=by rcases hw1 with rfl|rfl<;>rfl
  l w1s:w1.os=w.os/\w1.tape=w.tape/\w1.output=w.output/\w.drawn<=w1.drawn:=by rcases hw1 with rfl|rfl<;>exact ⟨rfl,rfl,rfl,by first|exact aw _|exact mD _⟩
  let p:=AF w1 r (itO c L.length (seen++[j]))
  l hr1:r<w1.heap.size:=by rw [w1h];exact J.hi
  l S2:a8J r w p:=⟨fun c hc=>by rw [show p=AF w1 r _ from rfl,Hm hc,w1h],by simp [p,AF,w1h],z⟩
  l H2:=J.I.H.side S2 hμr
  l I2:Inv fn.ntmps (stB r L (uY L seen)).get (dP (Jx L (uY L seen))) μ a p:=⟨H2,fun t=>(J.I.E t).side S2 hμr,J.I.sz,J.I.df⟩
  l C2:Chg μ0 (bJ [jT L]) w0 μ (bJ [jT L]) p:=J.C.side S2 hμr J.lo hfr w1s.1 w1s.2.1 w1s.2.2.1 w1s.2.2.2
  l it2:p.heap[r]? =some (itO c L.length (seen++[j])):=Wy hr1
  l hi2:r<p.heap.size:=by rw [S2.sz];exact J.hi
  l map2:p.heap[c]? =some (.map (AY L) L.length):=by
    rw [S2.ne c (fun e=>hμr 0 (by rw [J.mu,e]))];exact hmap
  rw [e30,hr,Result.andThen_ok,Oper.upon_value]
  refine .inl ?_
  l I9:=put9 (.tuple #[.bool true,lQ t.1 t.2.1,.int .i64 t.2.2]) p μ _ _ I2 .undef (.unk _)
  l e31:(execOp (a.put E.o30.dst (.tuple #[.bool true,lQ t.1 t.2.1,.int .i64 t.2.2])).eval E.o31).run P p= .ok (.value (.bool true)) p:=by
    l:(a.put E.o30.dst (.tuple #[.bool true,lQ t.1 t.2.1,.int .i64 t.2.2])).eval (.tmp 9)= .tuple #[.bool true,lQ t.1 t.2.1,.int .i64 t.2.2]:=by
     show (a.put E.o30.dst _).tmps.getD 9 undef=_
     rw [BB (fun e o=>by rw [E.d30.1] at o;cases o;omega),E.d30.1,ae rfl]
    simp [execOp,E.d31.2.2,this,Instr.extract]
  rw [e31,Oper.upon_value]
  show Exit.then _ _ .normal _ _
  refine wp_seq ?_
  l I10:=I9.put_skip (d:=E.o31.dst) (v:= .lit (.bool true)) (x:= .bool true) (fun e o=>by rw [E.d31.1] at o;cases o;omega) (.lit _)
  generalize ha2:(a.put E.o30.dst (.tuple #[.bool true,lQ t.1 t.2.1,.int .i64 t.2.2])).put E.o31.dst (.bool true)=a2 at I10
  l hsz2:fn.ntmps<=a2.tmps.size:=I10.sz
  l hev:a2.eval (.tmp 10)= .bool true:=by
    rw [<-ha2]
    show ((a.put E.o30.dst _).put E.o31.dst (.bool true)).tmps.getD 10 undef=_
    rw [BB (fun e o=>by rw [E.d31.1] at o;cases o;rw [Act.put_size];omega),E.d31.1,ae rfl]
  refine wp_cond_true hev (wp_skip ?_)
  show Code.wp P _ _ a2 p
  l IB:Inv fn.ntmps (stB r L (uY L seen)).get (dP (Jx L (uY L seen))) μ a2 p:=I10.weak (fun t=>by
    rw [E.d31.1]
    by_cases s:10=t
    ·subst s;right;rw [xx];simp
    ·by_cases h9:9=t
     ·subst h9;right;rw [xx];simp
     ·left
      simp [s,h9])
  l h8':a2.eval (.tmp 8)= .pointer (some ⟨r,0,none⟩):=by
    l:=IB.E 8
    rw [xx] at this
    simp only [show ¬(8:Nat)=0 by omega,show ¬(8:Nat)=3 by omega,if_false,if_true,zh] at this
    exact de this
  refine wp_block (wp_seq (wp_region ?_))
  l u:E.ops4=(E.o40::E.l4).toArray:=by rw [<-E.e4]
  l hsize:E.ops4.size=E.l4.length+1:=by rw [u];simp
  rw [hsize,List.range_eq_range',List.range'_succ]
  l hg0:E.ops4[0]? =some E.o40:=by rw [u];rfl
  simp only [wpOps,hg0,hw40,if_true]
  refine .inl ?_
  unfold Oper.wp
  l e40:(execOp a2.eval E.o40).run P p= .ok (.value (.tuple #[lQ t.1 t.2.1,.int .i64 t.2.2])) p:=by
    simp [execOp,E.d40.2.2,h8',a9i it2 map2 ht]
  rw [e40,Oper.upon_value]
  l vt: ∀{μ:Mu} {h:b8} {w:World},aY μ h w (.tup [.agg [.lit (.int .i64 t.1),.lit (.int .i64 t.2.1)],.lit (.int .i64 t.2.2)]) (.tuple #[lQ t.1 t.2.1,.int .i64 t.2.2]):= .tup _ _ rfl (fun i v hi=>by
    match i,hi with
    |0,hi=>simp at hi;subst hi;exact b6P _ _
    |1,hi=>simp at hi;subst hi;exact .lit _)
  l I11:=IB.put_skip (d:=E.o40.dst) (fun e o=>by rw [E.d40.1] at o;cases o;omega) vt
  l IE:Inv fn.ntmps (stE r L (uY L seen) t.1 t.2.1 t.2.2).get (dP (Jx L (uY L seen))) μ (a2.put E.o40.dst (.tuple #[lQ t.1 t.2.1,.int .i64 t.2.2])) p:=I11.weak (fun q=>by
    left
    rw [c1A,E.d40.1]
    by_cases h:q=11
    ·subst h;simp
    ·rw [aa h,aa (by simpa using Ne.symm h)])
  l hDl:(uY L seen).length<1073741824:=by
    l h1:=a0E L seen
    l h2:=a2i J.nd J.lt
    omega
  obtain ⟨X1,X2,g,X3,x1,x2,x3,x4,x5,x6,x7⟩:=E.eB r L (uY L seen) t.1 t.2.1 t.2.2 hDl
  l hD':(if nzT (t.1,t.2.1,t.2.2)=true then uY L seen++[(t.1,t.2.1,t.2.2)] else uY L seen)=uY L (seen++[j]):=(b1W ht).symm
  rw [hD'] at x4 x7
  refine Gn (P:=P) (C:=Call T ow) (Db hT) (ow:=ow) (n:=fn.ntmps) (ops:=E.ops4) (μ0:=μ) (h0:=bJ [jT L]) (w0:=p) E.l4 E.s4 1 5001 (stE r L (uY L seen) t.1 t.2.1 t.2.2) X1 μ (a2.put E.o40.dst (.tuple #[lQ t.1 t.2.1,.int .i64 t.2.2])) p
   (fun q hq=>by rw [u,jh];simp) E.k4 x1 IE (a5v (ZW L _)) (fun μ' a' w' I' S'=> ?_)
  show Code.wp P E.cR _ a' w'
  l I'':=I'.trim E.v4
  refine CZ hT hm E.kR x2 I'' S' (fun μ3 a3 w3 I3 S3=> ?_)
  obtain ⟨μ4,I4,S4⟩:=Nf x3 I3 S3
  show ∃seen μ,RJ fn.ntmps L μ0 w0 c r seen μ a3 w3/\a7F L.length seen+1<=k
  l hh:X3.heap=dP (Jx L (uY L (seen++[j]))):=by show dP X3.m=_;rw [x4]
  l h0:X3.heap 0=some (jT L):=by rw [hh];rfl
  obtain ⟨k1,k2⟩:=S4.C.ev.keep r hi2 J.st
  refine ⟨seen++[j],μ4,⟨?_,C2.trans (b2T S4.C h0),k2,J.lo,bP hi2 S4.C.ev.size,k1.trans it2,(c03 S4.C h0).trans J.mu, ?_, ?_⟩, ?_⟩
  ·rw [<-hh]
   refine I4.weak (fun q=> ?_)
   rw [xx]
   by_cases q0:q=0
   ·subst q0;left;rw [ae rfl,x5]
   ·by_cases q3:q=3
    ·subst q3;left;rw [aa (by omega),ae rfl,x7]
    ·by_cases q8:q=8
     ·subst q8;left;rw [aa (by omega),aa (by omega),ae rfl,x6]
     ·right;rw [aa q0,aa q3,aa q8]
  ·exact jP.2 ⟨J.nd,by simp,fun x hx y hy=>by simp at hy;subst hy;intro e;exact hj (e▸hx)⟩
  ·intro i hi
   rcases aX.1 hi with hi|hi
   ·exact J.lt i hi
   ·simp at hi;subst hi;exact hlt
  ·l:=b8v hlt hj;omega
end
end
section
section
variable {P:Program} {T:Tab} {ow:ec} {fn:Func} {hn:Im}
theorem b9x (kp:Bool) [inst:Frame] (hT:Ad P T) (hm:P.follows .mixedOrders=true) (E:c0t P T ow fn hn) {f:FuncId} (hf:P.funcs[f]? =some fn) {L:List Tri} (l:ms L=true) (hL:L.length<1073741824) {μ:Mu} {w:World} {x:Value}
 (H:bB μ (bJ [jT L]) w) (hx:aY μ (bJ [jT L]) w (.mp 0) x):
 Calls P f #[x] w (fun| .returned v,w'=>n4 inst μ (bJ [jT L]) w (a3p kp (fV (L.filter nzT))) (a2J kp L (fV (L.filter nzT))) v w'|_,_=>False):=by
 refine calls_of_wp hf E.body ?_
 a j:(start [.mp 0] [jT L]).heap=bJ [jT L]:=by
   funext i
   show dP (qK 0 [jT L]) i=[jT L][i]?
   rw [vP];simp
 a p: ∀t,(start [.mp 0] [jT L]).get t=if t=0 then .mp 0 else .undef:=by
   intro t
   show (dP (qK 0 [V.mp 0]) t).getD .undef=_
   rw [vP]
   cases t with
   |zero=>simp
   |succ t=>simp
 a I0:Inv fn.ntmps (start [.mp 0] [jT L]).get (start [.mp 0] [jT L]).heap μ { tmps:= #[x]++Array.replicate (fn.ntmps-1) undef,defers:=[] } w:=by
   a:=E.nt
   refine ⟨by rw [j];exact H,fun t=> ?_,by simp;omega,rfl⟩
   rw [p,j]
   by_cases h0:t=0
   ·subst h0
    rw [ae rfl]
    a hx0:(#[x]++Array.replicate (fn.ntmps-1) undef).getD 0 undef=x:=by
      rw [Array.getD_eq_getD_getElem?,fc (by simp)];rfl
    rw [<-hx0] at hx
    exact hx
   ·rw [aa h0];exact .unk _
 a S0:l8 μ (bJ [jT L]) w μ (start [.mp 0] [jT L]).heap w:=by
   rw [j]
   exact ⟨Chg.refl _ _ _,fun b k l=>by a:=dv l;simp at this;omega⟩
 obtain ⟨X,e0,e1⟩:=E.e0 L
 refine wp_seq (CZ hT hm E.k0 e0 I0 S0 (fun μ1 a1 w1 I1 S1=> ?_))
 show Code.wp P _ _ a1 w1
 refine wp_seq (CZ hT hm E.k1 e1 I1 S1 (fun μ2 a2 h I2 S2=> ?_))
 show Code.wp P _ _ a2 h
 a hh:(stA L []).heap=dP (Jx L []):=rfl
 rw [hh] at I2 S2
 a hsz:=I2.sz
 a hnt:=E.nt
 obtain ⟨c,hc,q⟩:=a6J I2.H (ZW L [])
 a h0:a2.tmps.getD 0 undef= .map (some c):=by
   a:=I2.E 0
   rw [a7J,ae rfl] at this
   generalize a2.tmps.getD 0 undef=y at this
   cases this with
   |mp _ _ k m hx' hmm=>
    rw [ZW] at m;cases m
    obtain ⟨c',r,h2⟩:=hmm rfl rfl
    rw [hc] at r;cases r
    exact h2
 refine wp_seq (wp_seq (wp_region ?_))
 show wpOps P #[E.o20,E.o21] _ [0,1] a2 h
 a s: ∀f,Region.wanted E.o20 f=true:=fun f=>by simp [Region.wanted,E.d20.2.1]
 a u: ∀f,Region.wanted E.o21 f=true:=fun f=>by simp [Region.wanted,E.d21.2.1]
 simp only [wpOps,oW,ja,j2,s,u,if_true]
 refine .inl ?_
 unfold Oper.wp
 a e20:(execOp a2.eval E.o20).run P h= .ok (.value (.map (some c))) h:=by
   a:a2.eval (.tmp 0)= .map (some c):=h0
   simp [execOp,E.d20.2.2,this]
 rw [e20,Oper.upon_value]
 refine .inl ?_
 a I7:=I2.put_skip (d:=E.o20.dst) (v:= .undef) (x:= .map (some c)) (fun e n=>by rw [E.d20.1] at n;cases n;omega) (.unk _)
 a e21:(execOp (a2.put E.o20.dst (.map (some c))).eval E.o21).run P h= .ok (.value (.pointer (some ⟨h.heap.size,0,none⟩))) (mK h (itO c L.length [])):=by
   a:(a2.put E.o20.dst (.map (some c))).eval (.tmp 7)= .map (some c):=by
    show (a2.put E.o20.dst _).tmps.getD 7 undef=_
    rw [BB (fun e n=>by rw [E.d20.1] at n;cases n;omega),E.d20.1,ae rfl]
   simp [execOp,E.d21.2.2,this,a8l E.hM q]
 rw [e21,Oper.upon_value]
 show Exit.then _ _ .normal _ _
 a g:=lS h (itO c L.length [])
 generalize z:mK h (itO c L.length [])=w3 at g ⊢
 a hat:w3.heap[h.heap.size]? =some (itO c L.length []):=by rw [<-z];exact pJ _ _
 a hs3:h.heap.size<w3.heap.size:=by rw [<-z];show _<(h.heap.push _).size;rw [Array.size_push];omega
 a C3:=g.chg I2.H
 a I3:Inv fn.ntmps (fun t=>if E.o20.dst=some t then V.undef else (stA L []).get t) (dP (Jx L [])) μ2 (a2.put E.o20.dst (.map (some c))) w3:=
   ⟨I2.H.grown g,fun t=>(I7.E t).chg C3,I7.sz,I7.df⟩
 a I8:=I3.put_skip (d:=E.o21.dst) (v:=zh h.heap.size) (x:= .pointer (some ⟨h.heap.size,0,none⟩)) (fun e n=>by rw [E.d21.1] at n;cases n;omega) (.lit _)
 generalize (a2.put E.o20.dst (.map (some c))).put E.o21.dst (.pointer (some ⟨h.heap.size,0,none⟩))=a3 at I8
 a S3C:Chg μ (bJ [jT L]) w μ2 (bJ [jT L]) w3:=by
   refine (b2T S2.C (ZW L [])).trans ⟨C3.ev,fun b k l=>⟨k,l, ?_⟩⟩
   refine .inr (.inr ⟨rfl,fun _=>rfl,rfl,rfl,fun c' hc'=>g.bsize (I2.H.lt hc')⟩)
 a hsz1:w.heap.size<=h.heap.size:=S2.C.ev.size
 a J:RJ fn.ntmps L μ w c h.heap.size [] μ2 a3 w3:=by
   refine ⟨I8.weak (fun t=> ?_),S3C,⟨fun b hb=>by a:=I2.H.lt hb;omega,fun hfr=>by a:=I2.H.frlt _ hfr;omega⟩,hsz1,hs3,hat,hc,jC,fun i hi=>by simp at hi⟩
   rw [E.d20.1,E.d21.1,xx,a7J]
   show (if t=0 then V.mp 0 else if t=3 then V.sl 2000 0 0 else if t=8 then zh h.heap.size else V.undef)=_\/_
   by_cases h0:t=0
   ·subst h0;left;simp
   ·by_cases h3:t=3
    ·subst h3;left;simp
    ·by_cases h8:t=8
     ·subst h8;left;simp
     ·right;rw [aa h0,aa h3,aa h8]
 refine wp_block (b5X hT hm E hL (fun c hc=>H.frlt c hc) (fun seen μ' a' w' J' o=> ?_) J)
 simp only [Exit.inBlock,if_true]
 show Code.wp P E.cT _ a' w'
 a hDk:ms (uY L seen)=true:=a60 (a0R J'.nd J'.lt o).symm (KE nzT l)
 a hDl:(uY L seen).length<1073741824:=by
   a r:=a0E L seen
   a h2:=a2i J'.nd J'.lt
   omega
 obtain ⟨Y,e,t1,t2,t3⟩:=E.eT h.heap.size L (uY L seen) hDk hDl
 a SB:l8 μ (bJ [jT L]) w μ' (stB h.heap.size L (uY L seen)).heap w':=by
   refine ⟨⟨J'.C.ev,fun b k l=> ?_⟩,S0.lo⟩
   obtain ⟨k',m,hq⟩:=J'.C.refs b k l
   a hb0':b=0:=by
     a:=dv l
     simp at this;exact this
   subst hb0'
   cases m
   exact ⟨jT L,rfl,hq⟩
 refine CZ hT hm E.kT t1 J'.I SB (fun μ4 a4 w4 I4 S4=> ?_)
 rw [show fV (L.filter nzT)=fV (uY L seen) from (a2l (KE nzT l) (a0R J'.nd J'.lt o)).symm]
 obtain ⟨v,r,h2⟩:=LO (blks:=[jT L]) (af:=⟨fn.ntmps,E.aT,E.rs,kp,false⟩) I4 S4 E.kr t2 (t3 kp)
 rcases t2 with rfl|rfl<;>exact ⟨I4.df,v,r,h2⟩
end
theorem c3D (kp:Bool) {P:Program} {T:Tab} {ow:ec} {fn:Func} {j:Im} (l:Ad P T) (m:P.follows .mixedOrders=true) (E:c0t P T ow fn j) {f:FuncId} (n:P.funcs[f]? =some fn)
 (eF: ∀args w,(callFunc f args).run P w= .ok (.enter f args) w):NN P f (a5Y kp):=by
 intro args blks r blks' h F μ w xs H o p
 unfold a5Y at h
 split at h
 ·rename_i cs
  split at h
  ·rename_i L hL
   split at h
   ·rename_i k
    cases h
    a e:=zH hL
    subst e
    a b:xs= #[xs.getD 0 undef]:=by
      apply Array.ext
      ·simpa using o
      ·intro i q t
       match i,q with
       |0,h=>simp [Array.getD_eq_getD_getElem?,aL h]
    a c:=p 0 _ rfl
    generalize xs.getD 0 undef=X0 at c b
    subst b
    a d:= @b9x P T ow fn j kp F l m E f n L k.1 k.2 μ w X0 H c
    refine Reach.mono (.inr ⟨eF _ _,d⟩) (fun v w' s=> ?_)
    exact s.czR
   ·cases h
  ·cases h
 ·cases h
end
end Go.AI
