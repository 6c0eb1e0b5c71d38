/- Sums proved and verified, round by round: program and reference go the plain way. -/
import Derived.Test.YtdnkignjanfikaaGreatPv0
import Derived.Test.YtdnkignjanfikaaGreatAiEntX
set_option linter.unusedVariables false
set_option linter.unusedSimpArgs false
namespace Go.AI.Fn
def toK (x:Ext):K:=⟨⟨x.A%2130706433,x.B%2130706433⟩,⟨is _,is _⟩⟩
theorem Dx {x:Ext} (h:okE x):(toK x).1=x:=N5 (Hm h.1) (Hm h.2)
theorem a2k (l:List Ext):(l.flatMap e8).length=8*l.length:=by
 induction l with
 |nil=>rfl
 |cons x l ih=>simp only [List.flatMap_cons,List.length_append,ih,b96,List.length_cons];omega
def rsM (s:Source) (g:List K):Source:=tkM s ((kv g).flatMap e8)
def rdM (s:Source) (g:List K):K:=toK (sS (rsM s g)).2
def nsM (s:Source) (g:List K):Source:=(sS (rsM s g)).1
theorem ZQ {s:Source} {k:Int} (h:Few s k) (hk:k≤999990) (g:List K):Few (nsM s g) (k+2):=by
 have:=(h.take ((kv g).flatMap e8)).draw om
 rw [show k+1+1=k+2 by omega] at this;exact this
theorem b7n {s:Source} {k:Int} (h:Few s k) (g:List K):(rdM s g).1=(sS (rsM s g)).2:=Dx (WA (h.take _).1)
theorem JR {s:Source} (h:AV s) {g:List K} (hl:g.length≤1000):bD (kv g) s=some (rsM s g):=by
 have e:=a2k (kv g)
 rw [aZ] at e
 unfold bD
 rw [EV (by rw [aZ];omega),obs,su h.3 om];rfl
theorem a9a {s:Source} {k:Int} (h:Few s k) (g:List K):fK (rsM s g)=some ((rdM s g).1,nsM s g):=by
 rw [Rc (s:=rsM s g) (h.take _).1,b7n h];rfl
def pvM (kind:Nat) (bh:List K→Source→Source):Nat→List K→List (List K)→Source→List (List K)×List K×List (List K)×Source
 |0,P,T,s=>([],[],T,s)
 |v+1,P,T,s=>(rdK kind T (2^v)::(pvM kind bh v (P++[rdM s (rdK kind T (2^v))]) (bdK (rdM s (rdK kind T (2^v))) T) (bh (P++[rdM s (rdK kind T (2^v))]) (nsM s (rdK kind T (2^v))))).1,
   rdM s (rdK kind T (2^v))::(pvM kind bh v (P++[rdM s (rdK kind T (2^v))]) (bdK (rdM s (rdK kind T (2^v))) T) (bh (P++[rdM s (rdK kind T (2^v))]) (nsM s (rdK kind T (2^v))))).2.1,
   (pvM kind bh v (P++[rdM s (rdK kind T (2^v))]) (bdK (rdM s (rdK kind T (2^v))) T) (bh (P++[rdM s (rdK kind T (2^v))]) (nsM s (rdK kind T (2^v))))).2.2)
def bh0:List K→Source→Source:=fun _ s=>s
def b3D (bh:List K→Source→Source):Prop:= ∀P s k,Few s k→k≤999990→Few (bh P s) (k+1)
theorem b07:b3D bh0:=fun P s k h _=>h.mono om
variable {kind:Nat} {bh:List K→Source→Source}
theorem Dd (v:Nat):2^(v+1)=2*2^v:=by rw [Nat.pow_succ,Nat.mul_comm]
theorem OkT.up {v:Nat} {T:List (List K)} (h:OkT kind (2^(v+1)) T) (r:K):OkT kind (2^v) (bdK r T):=by
 rw [Dd] at h;exact h.bd r
theorem K4: ∀(v:Nat) (P:List K) (T:List (List K)) (s:Source),(pvM kind bh v P T s).1.length=v∧(pvM kind bh v P T s).2.1.length=v
 |0,P,T,s=>⟨rfl,rfl⟩
 |v+1,P,T,s=>by simp only [pvM,List.length_cons];exact ⟨by rw [(K4 v _ _ _).1],by rw [(K4 v _ _ _).2]⟩
theorem T9: ∀(v:Nat) (P:List K) (T:List (List K)) (s:Source),OkT kind (2^v) T→OkT kind 1 (pvM kind bh v P T s).2.2.1
 |0,P,T,s,h=>h
 |v+1,P,T,s,h=>T9 v _ _ _ (h.up _)
theorem SA (hb:b3D bh): ∀(v:Nat) (P:List K) (T:List (List K)) (s:Source) (k:Int),Few s k→k+3*v≤999990→Few (pvM kind bh v P T s).2.2.2 (k+3*v)
 |0,P,T,s,k,h,hk=>by rw [show k+3*((0:Nat):Int)=k by omega];exact h
 |v+1,P,T,s,k,h,hk=>by
  have:=SA hb v (P++[rdM s (rdK kind T (2^v))]) (bdK (rdM s (rdK kind T (2^v))) T) _ _ (hb (P++[rdM s (rdK kind T (2^v))]) _ _ (ZQ h om (rdK kind T (2^v))) om) om
  rw [show k+2+1+3*(v:Int)=k+3*((v+1:Nat):Int) by omega] at this
  exact this
theorem a7g {T:List (List K)} (h:0<T.length):atL (kvv T) 0=some (kv (T.getD 0 [])):=JZ (j:=0) h
theorem c38: ∀v:Nat,v≤6→1≤2^v∧2^v≤64:=by decide
theorem HC: ∀(v:Nat) (Q:List K) (T:List (List K)) (s:Source) (k:Int) (R:List (List Ext)) (P:List Ext),OkT kind (2^v) T→Few s k→k+2*v≤999990→v≤6→R.length+v≤1000→P.length+v≤1000→
 Loop (bJ ([]:List Ext) (kind:Int)) (R,P,kvv T,s.Script,s.At,s.State,s.Count)=
  some (R++kvv (pvM kind bh0 v Q T s).1,P++kv (pvM kind bh0 v Q T s).2.1,kvv (pvM kind bh0 v Q T s).2.2.1,false,(pvM kind bh0 v Q T s).2.2.2.Script,(pvM kind bh0 v Q T s).2.2.2.At,(pvM kind bh0 v Q T s).2.2.2.State,(pvM kind bh0 v Q T s).2.2.2.Count)
 |0,Q,T,s,k,R,P,hT,hf,hk,hv,hR,hP=>by
  have hl:=hT.len
  have hkd:=hT.kd
  refine dx ?_
  simp only [bJ]
  rw [a7g om,obs,aZ,hT.tab 0 om,brn (by decide),decide_eq_false (by decide)]
  simp [pvM,kvv,kv,bh0]
 |v+1,Q,T,s,k,R,P,hT,hf,hk,hv,hR,hP=>by
  have hl:=hT.len
  have hkd:=hT.kd
  have hp:=c38 v om
  have hT2:=hT
  rw [Dd] at hT2
  rw [ct (s':=(R++[kv (rdK kind T (2^v))],P++[(rdM s (rdK kind T (2^v))).1],kvv (bdK (rdM s (rdK kind T (2^v))) T),(nsM s (rdK kind T (2^v))).Script,(nsM s (rdK kind T (2^v))).At,(nsM s (rdK kind T (2^v))).State,(nsM s (rdK kind T (2^v))).Count)) ?_]
  ·rw [HC v (Q++[rdM s (rdK kind T (2^v))]) _ _ _ _ _ (hT.up _) (ZQ hf om _) om om (by rw [List.length_append,List.length_singleton];omega) (by rw [List.length_append,List.length_singleton];omega)]
   simp [pvM,kvv,kv,bh0]
  ·simp only [bJ]
   rw [a7g om,obs,aZ,hT.tab 0 om,Dd,brd om,zC hT2 om,obs,show Source.mk s.Script s.At s.State s.Count=s from rfl,JR hf.1 (by rw [U7];omega),obs,a9a hf,obs]
   dsimp only
   rw [zw hT2 om,obs,aA (by rw [List.length_append,List.length_singleton];omega),aA (by rw [List.length_append,List.length_singleton];omega)];rfl
def mD (T:List (List K)):List K:=T.map fun t=>t.getD 0 0
theorem Ra {T:List (List K)} {j:Nat} (hj:j<T.length):(mD T).take (j+1)=(mD T).take j++[(T.getD j []).getD 0 0]:=by
 rw [bt (by simpa [mD] using hj)];simp [mD,hj]
theorem yF (T:List (List K)):(mD T).length=T.length:=by simp [mD]
theorem kv0 {l:List K} (h:0<l.length):atL (kv l) 0=some (l.getD 0 0).1:=pH (j:=0) h
theorem F0 {v:Nat} (Q:List K) {T:List (List K)} {s:Source} {k:Int} (hT:OkT kind (2^v) T) (hf:Few s k) (hk:k+2*v≤999990) (hv:v≤6):
 bz (kind:Int) (kvv T) s=some (kvv (pvM kind bh0 v Q T s).1,kv (pvM kind bh0 v Q T s).2.1,kv (mD (pvM kind bh0 v Q T s).2.2.1),(pvM kind bh0 v Q T s).2.2.2):=by
 unfold bz
 rw [HC v Q T s k [] [] hT hf hk hv (by rw [List.length_nil];omega) (by rw [List.length_nil];omega),obs]
 have ho:=T9 (bh:=bh0) v Q T s hT
 have hl:=ho.len
 have hkd:=ho.kd
 generalize pvM kind bh0 v Q T s=q at*
 obtain ⟨q1,q2,q3,q4⟩:=q
 dsimp only at*
 have key:=aH (step:=bu ([]++kvv q1) ([]++kv q2) (kvv q3) (((kvv q3).length:Nat):Int) q4.Script q4.At q4.State q4.Count) (fun j=>(kv ((mD q3).take j),(j:Int))) q3.length (e:=(kv (mD q3),(q3.length:Int),false)) (fun j hj=> ?_) ?_
 ·have key':Loop (bu ([]++kvv q1) ([]++kv q2) (kvv q3) (((kvv q3).length:Nat):Int) q4.Script q4.At q4.State q4.Count) ([],0)=_:=key
  rw [key'];rfl
 ·simp only [bu,ut]
  rw [brd om,JZ hj,obs,kv0 (by rw [ho.tab j hj];omega),obs,aA (by rw [List.length_append,aZ,List.length_take,yF,List.length_singleton];omega),aa _ om om,Ra hj,kvS];rfl
 ·simp only [bu,ut]
  rw [brn om,decide_eq_false om,List.take_of_length_le (by rw [yF];omega)]
noncomputable instance c3v:DecidableEq K:=fun a b=>Classical.propDecidable _
variable {bv:Nat→Source→Source}
theorem atK {l:List K} {j:Nat} {i:Int} (hi:i=(j:Int)) (h:j<l.length):atL (kv l) i=some (l.getD j 0).1:=by subst hi;exact pH h
end Go.AI.Fn
set_option linter.unusedVariables false
set_option linter.unusedSimpArgs false
namespace Go.AI.Fn
structure OkM (l:List ae) (R C:Int):Prop where
 len:l.length≤200
 ent: ∀x∈l,inE R C x
 srt: ∀k (hk:k<l.length), ∀y∈l.take k,ltE y l[k]
theorem Rq {x y z:ae} (h:ltE x y) (g:ltE y z):ltE x z:=by unfold ltE at*;omega
open Classical in
theorem Dw {l:List ae} {R C:Int} (h:vm l R C=true):OkM l R C:=by
 unfold vm at h
 obtain ⟨hl,hb⟩:=of_decide_eq_true h
 refine ⟨hl,fun x hx=> ?_,fun k=> ?_⟩
 ·obtain ⟨k,hk,rfl⟩:=List.getElem_of_mem hx
  by_cases c:inE R C l[k]
  ·exact c
  ·exact absurd ⟨_,yf hk,.inl c⟩ (hb k)
 ·induction k with
  |zero=>intro hk y hy;simp at hy
  |succ k ih=>
   intro hk y hy
   rw [bt om] at hy
   have hlt:ltE l[k] l[k+1]:=by
    by_cases c:ltE l[k] l[k+1]
    ·exact c
    ·exact absurd ⟨_,yf hk,.inr ⟨by omega,_,yf om,c⟩⟩ (hb (k+1))
   rcases List.mem_append.1 hy with hy|hy
   ·exact Rq (ih om y hy) hlt
   ·rw [List.mem_singleton.1 hy];exact hlt
theorem c01 {R C:Int} {x:ae} (h:inE R C x):okF x.Value:=⟨by have:=h.2.2.1;omega,h.2.2.2⟩
def Lv (l:List ae):List UInt8:=l.flatMap fun x=>[UInt8.ofInt x.Row,UInt8.ofInt x.Col]++nO x.Value
theorem BZ (l:List ae):(Lv l).length=6*l.length:=by
 induction l with
 |nil=>rfl
 |cons x l ih=>simp only [Lv,List.flatMap_cons,List.length_append,List.length_cons] at*;rw [ih];simp [eP];omega
theorem a36 (l:List ae) (x:ae):Lv (l++[x])=Lv l++([UInt8.ofInt x.Row,UInt8.ofInt x.Col]++nO x.Value):=by simp [Lv]
def a5U (l:List ae):List UInt8:=nO (l.length:Int)++Lv l
def W8 (s:aL):List UInt8:=[115,121,115,116,101,109]++[UInt8.ofInt s.Rows,UInt8.ofInt s.Cols,UInt8.ofInt s.Publics]++a5U s.A++a5U s.B++a5U s.C
theorem a6r (l:List ae):(a5U l).length=4+6*l.length:=by rw [a5U,List.length_append,BZ,eP]
theorem JH {l2 L:List UInt8} {t t2 t3 l c4 c5 c6:List ae} {t4 c c2 c3:Int} (h:l.length≤200) (hL:L.length≤1000000):Loop (ca l2 t t2 t3 t4 l ((l.length:Nat):Int) c c2 c3 c4 c5 c6) (L,0)=some (L++Lv l,(l.length:Int),false):=by
 have key:=aH (step:=ca l2 t t2 t3 t4 l ((l.length:Nat):Int) c c2 c3 c4 c5 c6) (fun k=>(L++Lv (l.take k),(k:Int))) l.length (e:=(L++Lv l,(l.length:Int),false)) (fun k hk=> ?_) ?_
 ·simpa [Lv] using key
 ·simp only [ca]
  have hn:=BZ (l.take k)
  rw [List.length_take] at hn
  rw [brd om,bN hk,obs,aA (by simp only [List.length_append,List.length_cons,List.length_nil];omega),nI (by simp only [List.length_append,List.length_cons,List.length_nil];omega),obs,aa _ om om,bt hk,a36]
  simp only [List.append_assoc,uW]
 ·simp only [ca]
  rw [brn om,decide_eq_false om,List.take_length]
theorem a0R {l2 L:List UInt8} {t t2 t3 l c4 c5 c6:List ae} {t4 c c2 c3:Int} (h:l.length≤200) (hL:L.length≤1000000):Loop (eY l2 t t2 t3 t4 l ((l.length:Nat):Int) c c2 c3 c4 c5 c6) (L,0)=some (L++Lv l,(l.length:Int),false):=JH (l2:=l2) (t:=t) (t2:=t2) (t3:=t3) (c4:=c4) (c5:=c5) (c6:=c6) (t4:=t4) (c:=c) (c2:=c2) (c3:=c3) h hL
theorem a05 {l2 L:List UInt8} {t t2 t3 l c4 c5 c6:List ae} {t4 c c2 c3:Int} (h:l.length≤200) (hL:L.length≤1000000):Loop (eX l2 t t2 t3 t4 l ((l.length:Nat):Int) c c2 c3 c4 c5 c6) (L,0)=some (L++Lv l,(l.length:Int),false):=JH (l2:=l2) (t:=t) (t2:=t2) (t3:=t3) (c4:=c4) (c5:=c5) (c6:=c6) (t4:=t4) (c:=c) (c2:=c2) (c3:=c3) h hL
theorem Lg {s:aL} (hA:s.A.length≤200) (hB:s.B.length≤200) (hC:s.C.length≤200):fh s=some (W8 s):=by
 have a1:=BZ s.A
 have b1:=BZ s.B
 have c1:=BZ s.C
 unfold fh ci
 rw [aA (by simp only [List.length_append,List.length_cons,List.length_nil];omega),obs]
 dsimp only
 rw [nI (by simp only [List.length_append,List.length_cons,List.length_nil];omega),obs,JH hA (by simp only [List.length_append,List.length_cons,List.length_nil,eP];omega),obs,
  nI (by simp only [List.length_append,List.length_cons,List.length_nil,eP];omega),obs,a0R hB (by simp only [List.length_append,List.length_cons,List.length_nil,eP];omega),obs,
  nI (by simp only [List.length_append,List.length_cons,List.length_nil,eP];omega),obs,a05 hC (by simp only [List.length_append,List.length_cons,List.length_nil,eP];omega),obs]
 simp only [W8,a5U,List.append_assoc]
theorem b0Y (s:aL):(W8 s).length=21+6*(s.A.length+s.B.length+s.C.length):=by
 simp only [W8,List.length_append,a6r,List.length_cons,List.length_nil];omega
end Go.AI.Fn
set_option linter.unusedVariables false
set_option linter.unusedSimpArgs false
namespace Go.AI.Fn
def a9N:List K→List K→K
 |a::xs,b::ys=>a*b+a9N xs ys
 |_,_=>0
theorem Yi: ∀(a b:List K) (c:K),((kv a).zip (kv b)).foldl (fun c p=>eA c (eM p.1 p.2)) c.1=(c+a9N a b).1
 |[],b,c=>by
  show c.1=(c+0).1
  exact congrArg Subtype.val (by exact kg)
 |_::_,[],c=>by
  show c.1=(c+0).1
  exact congrArg Subtype.val (by exact kg)
 |x::a,y::b,c=>by
  have:=Yi a b (c+x*y)
  show ((kv a).zip (kv b)).foldl _ (c+x*y).1=_
  rw [this]
  exact congrArg Subtype.val (by rw [a9N];exact kg)
theorem b9p (a b:List K):a6p (kv a) (kv b)=(a9N a b).1:=by
 have:=Yi a b 0
 rw [a6p]
 rw [show e0=(0:K).1 from rfl,this]
 exact congrArg Subtype.val (by exact kg)
def btS (β:K) (R T:List K) (x:ae):List K:=T.set x.Col.toNat (T.getD x.Col.toNat 0+β*R.getD x.Row.toNat 0*kF x.Value)
theorem wP (β:K) (R:List K): ∀(l:List ae) (T:List K),(l.foldl (btS β R) T).length=T.length
 |[],T=>rfl
 |x::l,T=>by rw [List.foldl_cons,wP β R l,btS,List.length_set]
theorem c0d (l:List K) (j:Nat) (x:K):(kv l).set j x.1=kv (l.set j x):=by simp [kv,List.map_set]
theorem Ov {R T:List K} {β:K} {l t t2 t3 c4 c5 c6:List ae} {t4 c c2 c3 c9 c10 c11 c12 RR CC:Int} (hm:OkM l RR CC) (hR:(R.length:Int)=RR) (hT:(T.length:Int)=CC):
 Loop (eu (kv R) t t2 t3 t4 l ((l.length:Nat):Int) c c2 c3 c4 c5 c6 β.1.A β.1.B c9 c10 c11 c12) (kv T,0)=some (kv (l.foldl (btS β R) T),(l.length:Int),false):=by
 have hl:=hm.len
 have key:=aH (step:=eu (kv R) t t2 t3 t4 l ((l.length:Nat):Int) c c2 c3 c4 c5 c6 β.1.A β.1.B c9 c10 c11 c12) (fun j=>(kv ((l.take j).foldl (btS β R) T),(j:Int))) l.length (e:=(kv (l.foldl (btS β R) T),(l.length:Int),false)) (fun j hj=> ?_) ?_
 ·exact key
 ·simp only [eu]
  obtain ⟨hr,hc,_⟩:=hm.ent _ (List.getElem_mem hj)
  have hv:=c01 (hm.ent _ (List.getElem_mem hj))
  have hn:=wP β R (l.take j) T
  have hrow:atL (kv R) l[j].Row=some (R.getD l[j].Row.toNat 0).1:=by
   have:=pH (l:=R) (j:=l[j].Row.toNat) om
   rwa [Int.toNat_of_nonneg hr.1] at this
  rw [brd om,bN hj,obs,brd hc.1,brd (by rw [aZ,hn];omega),Hd om,obs,hrow,obs,show Ext.mk β.1.A β.1.B=β.1 from rfl,jv β.2 (Subtype.property _),obs,xm (KG _ _) hv,obs,
   qC (Subtype.property _) (a9G _ _),obs,brd hc.1,brd (by rw [aZ,hn];omega),obs,aa _ om om,a2a, ←OD hv,bt hj,List.foldl_append]
  show some (Sum.inl ((kv _).set l[j].Col.toNat ((List.foldl (btS β R) T (l.take j)).getD l[j].Col.toNat 0+β*R.getD l[j].Row.toNat 0*kF l[j].Value).1,_))=_
  rw [c0d];rfl
 ·simp only [eu]
  rw [brn om,decide_eq_false om,List.take_length]
end Go.AI.Fn
set_option linter.unusedVariables false
set_option linter.unusedSimpArgs false
namespace Go.AI.Fn
def b5p (out:List K) (p:K):List K:=out.map (fun a=>a*(1-p))++out.map (fun a=>a*p)
def eqK (P:List K):List K:=P.foldl b5p [1]
theorem c0c (out:List K) (p:K):eqS (kv out) p.1=kv (b5p out p):=by
 simp only [eqS,kv,b5p,List.map_append,List.map_map];rfl
theorem b1p: ∀(P out:List K),(kv P).foldl eqS (kv out)=kv (P.foldl b5p out)
 |[],out=>rfl
 |p::P,out=>by
  show (kv P).foldl eqS (eqS (kv out) p.1)=_
  rw [c0c,b1p P];rfl
theorem Nd (P:List K):eqT (kv P)=kv (eqK P):=b1p P [1]
theorem Sr (P:List K):(eqK P).length=2^P.length:=by
 have:=U0 (kv P)
 rw [Nd,aZ,aZ] at this;exact this
variable {kind:Nat} {bh:List K→Source→Source}
end Go.AI.Fn
set_option linter.unusedVariables false
set_option linter.unusedSimpArgs false
namespace Go.AI.Fn
theorem c0H {α:Type} {g:Nat→Option α} {N:Nat} {r:α} (h: ∀n,g n=if N≤n then some r else none):lim g=some r:=by
 have hx: ∃n r,g n=some r:=⟨N,r,by rw [h,if_pos (Nat.le_refl _)]⟩
 unfold lim
 rw [dif_pos hx]
 obtain ⟨r',hr'⟩:=hx.choose_spec
 have:=h hx.choose
 rw [hr'] at this ⊢
 split at this
 ·exact this
 ·cases this
theorem Qu {l:List K} {j:Nat} (h:j<l.length):l.take (j+1)=l.take j++[l.getD j 0]:=by rw [bt h];simp [h]
theorem Uv (l:List K) (x:K):kv (l++[x])=kv l++[x.1]:=by simp [kv]
theorem UN: ∀k:Nat,k≤9→1≤2^k∧2^k≤512:=by decide
theorem b2m {l:List K} {m:Nat} {w:Int} (h:l.length=2*m) (hm:m≤1000):Loop (jb (kv l) w) ([],[],0)=some (kv (evs l),kv (ods l),(l.length:Int),false):=by
 have h1:=Uh l m h
 have h2:=SS l m h
 have key:=aH (step:=jb (kv l) w) (fun j=>(kv ((evs l).take j),kv ((ods l).take j),((2*j:Nat):Int))) m (e:=(kv (evs l),kv (ods l),(l.length:Int),false)) (fun j hj=> ?_) ?_
 ·exact key
 ·simp only [jb]
  have e1:atL (kv l) ((2*j:Nat):Int)=some ((evs l).getD j 0).1:=by rw [pH om,a26]
  have e2:atL (kv l) ((2*j+1:Nat):Int)=some ((ods l).getD j 0).1:=by rw [pH om,a2G]
  rw [brd (by rw [aZ];omega),e1,obs,aA (by rw [List.length_append,aZ,List.length_take,List.length_singleton];omega),aa _ om om,show (((2*j:Nat):Int))+1=((2*j+1:Nat):Int) by omega,e2,obs,
   aA (by rw [List.length_append,aZ,List.length_take,List.length_singleton];omega),aa _ om om,show (((2*j:Nat):Int))+2=((2*(j+1):Nat):Int) by omega,Qu om,Qu om,Uv,Uv]
 ·simp only [jb]
  rw [brn (by rw [aZ];omega),decide_eq_false (by rw [aZ];omega),List.take_of_length_le om,List.take_of_length_le om,h]
def pwI (w:Int):Nat→Int
 |0=>1
 |j+1=>mF (pwI w j) w
theorem Z5 (w:Int): ∀j,okF (pwI w j)
 |0=>c0Z
 |j+1=>wK _ _
theorem a9d (w:Int): ∀j,kF (pwI w j)=kF w^j
 |0=>rfl
 |j+1=>by rw [pwI,b1c,a9d w j,pwS]
def J9 (h j:Nat) (lo hi:Nat→K):List Ext:=(List.range (2*h)).map fun i=>if i<h then (if i<j then (lo i).1 else e0) else if i-h<j then (hi (i-h)).1 else e0
theorem Vk (h j:Nat) (lo hi:Nat→K):(J9 h j lo hi).length=2*h:=by simp [J9]
theorem a67 (h:Nat) (lo hi:Nat→K):J9 h 0 lo hi=List.replicate (2*h) e0:=by
 refine List.ext_getElem (by simp [J9]) fun i h1 h2=> ?_
 simp [J9]
theorem a6E {h j:Nat} {lo hi:Nat→K} (hj:j<h):((J9 h j lo hi).set j (lo j).1).set (j+h) (hi j).1=J9 h (j+1) lo hi:=by
 refine List.ext_getElem (by simp [J9]) fun i h1 h2=> ?_
 simp only [J9,List.getElem_set,List.getElem_map,List.getElem_range]
 by_cases c1:j+h=i
 ·subst c1
  rw [if_pos rfl,if_neg om,if_pos om,show j+h-h=j by omega]
 ·rw [if_neg c1]
  by_cases c2:j=i
  ·subst c2
   rw [if_pos rfl,if_pos hj,if_pos om]
  ·rw [if_neg c2]
   by_cases c3:i<h
   ·rw [if_pos c3,if_pos c3]
    by_cases c4:i<j
    ·rw [if_pos c4,if_pos om]
    ·rw [if_neg c4,if_neg om]
   ·rw [if_neg c3,if_neg c3]
    by_cases c4:i-h<j
    ·rw [if_pos c4,if_pos om]
    ·rw [if_neg c4,if_neg om]
theorem a5G {h:Nat} {lo hi:Nat→K}:J9 h h lo hi=kv ((List.range h).map lo++(List.range h).map hi):=by
 refine List.ext_getElem (by simp [J9,kv];omega) fun i h1 h2=> ?_
 rw [Vk] at h1
 simp only [J9,kv,List.getElem_map,List.getElem_range,List.getElem_append,List.length_map,List.length_range]
 by_cases c:i<h
 ·simp [c]
 ·simp [c,show i-h<h by omega]
theorem c1l:(Ext.mk 0 0)=e0:=rfl
theorem b1W {E O:List K} {w:Int} {h:Nat} (hE:E.length=h) (hO:O.length=h) (hw:okF w) (hh:h≤1000):
 Loop (jl (kv E) (kv O) w (h:Int) (h:Int)) (List.replicate (2*h) e0,1,0)=some (kv (b00 E O (kF w) h++b1u E O (kF w) h),pwI w h,(h:Int),false):=by
 have key:=aH (step:=jl (kv E) (kv O) w (h:Int) (h:Int)) (fun j=>(J9 h j (fun j=>E.getD j 0+O.getD j 0*kF w^j) (fun j=>E.getD j 0-O.getD j 0*kF w^j),pwI w j,(j:Int))) h
  (e:=(kv (b00 E O (kF w) h++b1u E O (kF w) h),pwI w h,(h:Int),false)) (fun j hj=> ?_) ?_
 ·rw [a67] at key;exact key
 ·simp only [jl,Int.toNat_natCast]
  have hx:eC (O.getD j 0).1 (pwI w j)=(O.getD j 0*kF w^j).1:=by rw [a2a, ←a9d, ←OD (Z5 w j)];rfl
  have hl:=Vk h j (fun j=>E.getD j 0+O.getD j 0*kF w^j) (fun j=>E.getD j 0-O.getD j 0*kF w^j)
  rw [aa ((j:Int)+(h:Int)) om om,show (j:Int)+(h:Int)=((j+h:Nat):Int) by omega]
  simp only [Int.toNat_natCast]
  rw [brd om,brd om,brd (by rw [aZ];omega),Hd om,obs,xm (Subtype.property _) (Z5 w j),obs,hx,brd om,brd (by rw [aZ];omega),Hd om,obs,qC (Subtype.property _) (Subtype.property _),obs,
   brd om,brd (by rw [aZ];omega),obs,qa (Subtype.property _) (Subtype.property _),obs,brd om,brd om,yf om,obs,brd om,brd om,yf (by rw [List.length_set];omega),obs,
   gr (Z5 w j) hw,obs,aa _ om om, ←a6E hj]
  rfl
 ·simp only [jl]
  rw [brn om,decide_eq_false om,a5G];rfl
theorem rE: ∀(n k:Nat) (l:List K) (w:Int),k≤9→okF w→l.length=2^k→kV n (kv l) w=if k+1≤n then some (kv (V k l (kF w))) else none
 |0,k,l,w,_,_,_=>by rw [if_neg om];rfl
 |n+1,0,l,w,_,_,hl=>by
  rw [if_pos om]
  unfold kV co
  rw [aZ,hl,bre (by simp),aA (by decide)];rfl
 |n+1,k+1,l,w,hk,hw,hl=>by
  have hp:=UN (k+1) hk
  have hp1:=UN k om
  have hs:l.length=2*2^k:=by rw [hl,Nat.pow_succ];omega
  have he:=c2q hl
  have ho:=c2m hl
  have hw2:=wK w w
  unfold kV
  rw [aZ,bc om,b2m hs om,obs,gr hw hw,obs]
  dsimp only
  by_cases c:k+1≤n
  ·have hE:=a8N k (evs l) (kF (mF w w)) he
   have hO:=a8N k (ods l) (kF (mF w w)) ho
   rw [rE n k (evs l) _ om hw2 he,if_pos c,obs,obs,rE n k (ods l) _ om hw2 ho,if_pos c,obs,if_pos om,aZ,hE,aa _ om om,Xi om om om,show ((2:Int)*((2^k:Nat):Int)).toNat=2*2^k by omega,c1l,b1W hE hO hw om,obs,b1c];rfl
  ·rw [rE n k (evs l) _ om hw2 he,if_neg c,if_neg om];rfl
theorem Xo {k:Nat} {l:List K} {w:Int} (hk:k≤9) (hw:okF w) (hl:l.length=2^k):Ng (kv l) w=some (kv (V k l (kF w))):=c0H fun n=>rE n k l w hk hw hl
end Go.AI.Fn
set_option linter.unusedVariables false
set_option linter.unusedSimpArgs false
namespace Go.AI.Fn
abbrev Tx:=List UInt8
def a8Z (t:Tx):Tx:=0::t
def a9D (a b:Tx):Tx:=1::(a++b)
def hL (t:Tx):Tx:=H (a8Z t)
def hN (a b:Tx):Tx:=H (a9D a b)
theorem a2j {l:List Tx} {k:Nat} (h:k<l.length):atL l (k:Int)=some (l.getD k []):=by simp [atL,h]
theorem Q9 {t:Tx} (h:t.length≤1000000):uX t=some (a8Z t):=by
 unfold uX;rw [aA (by simp only [List.length_cons,List.length_nil];omega)];rfl
theorem Qh {a b:Tx} (ha:a.length≤1000000) (hb:b.length≤1000000):ve a b=some (a9D a b):=by
 unfold ve
 rw [aA (by simp only [List.length_cons,List.length_nil];omega),aA (by simp only [List.length_append,List.length_cons,List.length_nil];omega)];rfl
def upL (row:List Tx):List Tx:=(List.range (row.length/2)).map fun k=>hN (row.getD (2*k) []) (row.getD (2*k+1) [])
theorem b3J (row:List Tx):(upL row).length=row.length/2:=by simp [upL]
def Hs (l:List Tx):Prop:= ∀x∈l,x.length=32
theorem c3g (row:List Tx):Hs (upL row):=fun x hx=>by
 obtain ⟨k,_,rfl⟩:=List.mem_map.1 hx;exact H0 _
theorem Hs.getD {l:List Tx} (h:Hs l) {k:Nat} (hk:k<l.length):(l.getD k []).length=32:=by simp [hk];exact h _ (List.getElem_mem hk)
theorem vU {α:Type} (f:Nat→α) (k:Nat):(List.range (k+1)).map f=(List.range k).map f++[f k]:=by rw [List.range_succ,List.map_append];rfl
theorem b4X {l3:List (List Tx)} {row:List Tx} {m:Nat} (hr:Hs row) (hm:row.length=2*m) (hb:m≤1000000):Loop (lx l3 row) ([],0)=some (upL row,((2*m:Nat):Int),false):=by
 have e:upL row=(List.range m).map fun k=>hN (row.getD (2*k) []) (row.getD (2*k+1) []):=by rw [upL,hm];simp
 rw [e]
 exact aH (fun k=>((List.range k).map fun k=>hN (row.getD (2*k) []) (row.getD (2*k+1) []),((2*k:Nat):Int))) m (fun k hk=>by
  have h1:=hr.getD (k:=2*k) om
  have h2:=hr.getD (k:=2*k+1) om
  simp only [lx]
  rw [brd om,a2j om,obs,aa _ om om,show (((2*k:Nat):Int))+1=((2*k+1:Nat):Int) by omega,a2j om,obs,Qh om om,obs,
   L7 (by simp only [a9D,List.length_cons,List.length_append];omega),obs,aA (by simp only [List.length_append,List.length_map,List.length_range,List.length_singleton];omega),aa _ om om,vU]
  rw [show (((2*k:Nat):Int))+2=((2*(k+1):Nat):Int) by omega];rfl) (by
  simp only [lx]
  rw [brn om,decide_eq_false om])
def rowAt (row:List Tx) (j:Nat):List Tx:=iU (fun _ r=>upL r) j row
theorem ND (row:List Tx) (j:Nat):rowAt row (j+1)=upL (rowAt row j):=rfl
theorem uI {row:List Tx} {k:Nat} (h:row.length=2^k): ∀j,j≤k→(rowAt row j).length=2^(k-j)
 |0,_=>by simpa [rowAt,iU] using h
 |j+1,hj=>by
  rw [ND,b3J,uI h j om,show k-j=(k-(j+1))+1 by omega,Nat.pow_succ];omega
theorem a1T {row:List Tx} (h:Hs row): ∀j,Hs (rowAt row j)
 |0=>h
 |j+1=>c3g _
def pC (row:List Tx) (k:Nat):List (List Tx):=(List.range (k+1)).map (rowAt row)
theorem b2z: ∀k:Nat,k≤9→1≤2^k∧2^k≤512:=by decide
theorem OZ {k j:Nat} (hj:j<k):2^(k-j)=2*2^(k-(j+1)):=by
 rw [show k-j=(k-(j+1))+1 by omega,Nat.pow_succ];omega
theorem a49 {row:List Tx} {k:Nat} (hr:Hs row) (hl:row.length=2^k) (hk:k≤9):Loop jp ([row],row)=some (pC row k,rowAt row k,false):=by
 have key:=aH (step:=jp) (fun j=>(pC row j,rowAt row j)) k (e:=(pC row k,rowAt row k,false)) (fun j hj=>by
  have h1:=uI hl j om
  have h2:=OZ hj
  have h3:=b2z (k-(j+1)) om
  simp only [jp]
  rw [brd om,b4X (m:=2^(k-(j+1))) (a1T hr j) om om,obs]
  dsimp only
  rw [aA (by simp only [pC,List.length_append,List.length_map,List.length_range,List.length_singleton];omega)]
  rw [pC,pC,vU _ (j+1),ND]) (by
  have h1:=uI hl k om
  rw [Nat.sub_self,Nat.pow_zero] at h1
  simp only [jp]
  rw [brn om,decide_eq_false om])
 exact key
def b6T (l:List Tx):Prop:= ∀x∈l,x.length≤1000
theorem WM (l:List Tx):Hs (l.map hL):=fun x hx=>by obtain ⟨y,_,rfl⟩:=List.mem_map.1 hx;exact H0 _
theorem XB {l:List Tx} {k:Nat} (hs:b6T l) (hl:l.length=2^k) (hk:k≤9):CY l=some (pC (l.map hL) k):=by
 have hb:=b2z k hk
 unfold CY
 have key:Loop (lr l ((l.length:Nat):Int)) ([],0)=some (l.map hL,(l.length:Int),false):=
  aH (fun j=>((l.take j).map hL,(j:Int))) l.length (fun j hj=>by
   have hx:=hs _ (List.getElem_mem hj)
   simp only [lr]
   rw [brd om,bN hj,obs,Q9 om,obs,L7 (by simp only [a8Z,List.length_cons];omega),obs,aA (by simp only [List.length_append,List.length_map,List.length_take,List.length_singleton];omega),aa _ om om,bt hj,List.map_append]
   rfl) (by
   simp only [lr]
   rw [brn om,decide_eq_false om,List.take_length])
 rw [key,obs]
 dsimp only
 rw [a49 (WM l) (by rw [List.length_map,hl]) hk,obs]
def ZY (row:List Tx) (k:Nat):Tx:=(rowAt row k).getD 0 []
theorem Dl (row:List Tx) (k:Nat):(pC row k).length=k+1:=by simp [pC]
theorem a3a {row:List Tx} {k j:Nat} (h:j≤k):atL (pC row k) (j:Int)=some (rowAt row j):=by
 rw [bN (by rw [Dl];omega)];simp [pC]
theorem Wc {row:List Tx} {k:Nat} (hl:row.length=2^k) (hk:k≤9):vA (pC row k)=some (ZY row k):=by
 unfold vA
 have h1:=uI hl k (Nat.le_refl _)
 rw [Nat.sub_self,Nat.pow_zero] at h1
 rw [Dl,aa _ om om,show (((k+1:Nat):Int))-1=(k:Int) by omega,a3a (Nat.le_refl _),obs]
 have e:=a2j (l:=rowAt row k) (k:=0) om
 rw [show ((0:Nat):Int)=0 from rfl] at e
 rw [e];rfl
def sib (i:Nat):Nat:=if i%2=0 then i+1 else i-1
theorem b8Y: ∀i:Nat,i<512→io .i64 (i:Int) 1=(sib i:Int):=by decide+kernel
def AG (row:List Tx) (k i:Nat):List Tx:=(List.range k).map fun j=>(rowAt row j).getD (sib (i/2^j)) []
theorem a5k (row:List Tx) (k i:Nat):(AG row k i).length=k:=by simp [AG]
theorem b05 {i k j:Nat} (hi:i<2^k) (hj:j<k):i/2^j<2^(k-j):=by
 rw [Nat.div_lt_iff_lt_mul (Nat.pow_pos (by decide)), ←Nat.pow_add]
 rwa [show k-j+j=k by omega]
theorem b9O {i m:Nat} (h:i<2*m):sib i<2*m:=by unfold sib;split<;>omega
theorem a6G (i j:Nat):i/2^j/2=i/2^(j+1):=by rw [Nat.div_div_eq_div_mul,Nat.pow_succ]
theorem a4A {row:List Tx} {k i j:Nat} (hl:row.length=2^k) (hk:k≤9) (hi:i<2^k) (hj:j<k):atL (rowAt row j) (io .i64 ((i/2^j:Nat):Int) 1)=some ((rowAt row j).getD (sib (i/2^j)) []):=by
 have h1:=uI hl j om
 have h2:=b05 hi hj
 have h3:=b2z (k-j) om
 have h4:=OZ hj
 rw [b8Y _ om,a2j (by rw [h1,h4];exact b9O om)]
theorem a3V (q:Nat) (h:q≤1000000):IntKind.wrap .i64 (((q:Nat):Int)/2)=((q/2:Nat):Int):=by
 rw [aa _ om om];omega
theorem XT {row:List Tx} {k i:Nat} (hl:row.length=2^k) (hk:k≤9) (hi:i<2^k):Ce (pC row k) i=some (AG row k i):=by
 unfold Ce
 have h8:=b2z k hk
 rw [Dl,aa _ om om,lQ om om (by rw [Dl];omega),obs]
 have e:((pC row k).drop (Int.toNat 0)).take ((((k+1:Nat):Int)-1).toNat-Int.toNat 0)=(List.range k).map (rowAt row):=by
  rw [show (((k+1:Nat):Int)-1).toNat=k by omega]
  show ((pC row k).take k)=_
  rw [pC, ←List.map_take,List.take_range,Nat.min_eq_left om]
 rw [e]
 have el:((List.range k).map (rowAt row)).length=k:=by simp
 rw [el]
 have key:Loop (je ((List.range k).map (rowAt row)) (k:Int)) ([],(i:Int),0)=some (AG row k i,((i/2^k:Nat):Int),(k:Int),false):=by
  have key:=aH (step:=je ((List.range k).map (rowAt row)) (k:Int)) (fun j=>(AG row j i,((i/2^j:Nat):Int),(j:Int))) k (e:=(AG row k i,((i/2^k:Nat):Int),(k:Int),false)) (fun j hj=>by
   have hq:i/2^j≤i:=Nat.div_le_self _ _
   simp only [je]
   rw [brd om,bN om,obs,List.getElem_map,List.getElem_range,a4A hl hk hi hj,obs,aA (by simp only [List.length_append,a5k,List.length_singleton];omega),lU _ _ (by exact Int.natCast_nonneg _),a3V _ (by exact Nat.le_trans hq om),aa _ om om,AG,AG,vU, ←a6G]
   rfl) (by
   simp only [je]
   rw [brn om,decide_eq_false om])
  simpa [AG] using key
 rw [key];rfl
end Go.AI.Fn
set_option linter.unusedVariables false
set_option linter.unusedSimpArgs false
namespace Go.AI.Fn
end Go.AI.Fn
set_option linter.unusedVariables false
set_option linter.unusedSimpArgs false
namespace Go.AI.Fn
theorem c1j: ∀k:Nat,k≤9→Hj ((2^k:Nat):Int)=some (k:Int)
 |0,_=>rfl
 |1,_=>rfl
 |2,_=>rfl
 |3,_=>rfl
 |4,_=>rfl
 |5,_=>rfl
 |6,_=>rfl
 |7,_=>rfl
 |8,_=>rfl
 |9,_=>rfl
def rtK (k:Nat):K:=kF (W7 k)
def fpK (k i:Nat) (a b r:K):K:=(a+b)*kF (iF 2)+r*(a-b)*(kF (iF 2)*kF (iF (pF (W7 k) i)))
theorem a1r (a:Int):okF (iF a):=a6w _ _
theorem c3U:okF 2:=⟨by decide,by decide⟩
theorem Qe {k i:Nat} (a b r:K) (hk:k≤9) (hi:i≤1000):vP ((2^k:Nat):Int) i a.1 b.1 r.1=some (fpK k i a b r).1:=by
 unfold vP
 rw [Hi c3U,obs,c1j k hk,obs,QU om,obs,Ou (V6 k) om om,obs,qC a.2 b.2,obs,xm (a7d _ _) (a1r 2),obs,qa a.2 b.2,obs,
  jv r.2 (Qs _ _),obs,Hi (a6w _ _),obs,gr (a1r 2) (a1r _),obs,xm (KG _ _) (wK _ _),obs,qC (a9G _ _) (a9G _ _),obs,Int.toNat_natCast,a2a,a2a, ←OD (a1r 2), ←OD (wK _ _),b1c];rfl
def fwK (k:Nat) (W:List K) (r:K):List K:=(List.range (2^k)).map fun i=>fpK (k+1) i (W.getD i 0) (W.getD (i+2^k) 0) r
theorem Th (k:Nat) (W:List K) (r:K):(fwK k W r).length=2^k:=by simp [fwK]
theorem EU {k:Nat} {W:List K} (r:K) (hk:k+1≤9) (hW:W.length=2^(k+1)):vl (kv W) r.1=some (kv (fwK k W r)):=by
 have hp:=UN (k+1) hk
 have hs:2^(k+1)=2*2^k:=by rw [Nat.pow_succ];omega
 unfold vl
 have hh:IntKind.wrap .i64 (((2^(k+1):Nat):Int).tdiv 2)=((2^k:Nat):Int):=by rw [lU _ _ om,aa _ om om];omega
 rw [aZ,hW,hh]
 have key:=aH (step:=gc (kv W) ((2^k:Nat):Int) ((2^k:Nat):Int) r.1.A r.1.B) (fun j=>(kv ((List.range j).map fun i=>fpK (k+1) i (W.getD i 0) (W.getD (i+2^k) 0) r),(j:Int))) (2^k)
  (e:=(kv (fwK k W r),((2^k:Nat):Int),false)) (fun j hj=> ?_) ?_
 ·have key':Loop (gc (kv W) ((2^k:Nat):Int) ((2^k:Nat):Int) r.1.A r.1.B) ([],0)=_:=key
  rw [key'];rfl
 ·simp only [gc]
  rw [brd om,pH om,obs,aa ((j:Int)+_) om om,show (j:Int)+((2^k:Nat):Int)=((j+2^k:Nat):Int) by omega,pH om,obs,aZ,hW,
   Qe _ _ r hk om,obs,aA (by simp only [List.length_append,aZ,List.length_map,List.length_range,List.length_singleton];omega),aa _ om om,List.range_succ,List.map_append,List.map_singleton,Uv];rfl
 ·simp only [gc]
  rw [brn om,decide_eq_false om];rfl
def a0p (l:List K) (n:Nat):List K:=l++List.replicate (n-l.length) 0
theorem a6D {l:List K} {n:Nat} (h:l.length≤n):(a0p l n).length=n:=by simp [a0p];omega
def Enc (m t:Nat) (l:List K):List K:=V (m+t) (a0p l (2^(m+t))) (rtK (m+t))
theorem Pg (m t:Nat):2^m≤2^(m+t):=Nat.pow_le_pow_right om om
theorem Ox {m t:Nat} {l:List K} (h:l.length=2^m):(a0p l (2^(m+t))).length=2^(m+t):=a6D (by rw [h];exact Pg m t)
theorem b3f {m t:Nat} {l:List K} (h:l.length=2^m):(Enc m t l).length=2^(m+t):=a8N _ _ _ (Ox h)
theorem b6O: ∀m:Nat,m≤9→ ∀t:Nat,t≤9→aP .i64 ((2^m:Nat):Int) (t:Int)=((2^(m+t):Nat):Int):=by decide+kernel
theorem b7H (n:Nat):kv (List.replicate n 0)=List.replicate n e0:=by rw [kv,List.map_replicate];rfl
theorem c0K (a b:List K):kv (a++b)=kv a++kv b:=by simp [kv]
theorem c0O (l:List K) (n:Nat):kv (a0p l n)=kv l++List.replicate (n-l.length) e0:=by rw [a0p,c0K,b7H]
theorem Gk {m t:Nat} {l:List K} (hk:m+t≤9) (h:l.length=2^m):uO (kv l) (t:Int)=some (kv (Enc m t l)):=by
 have hp:=UN (m+t) hk
 have hq:=Pg m t
 unfold uO
 have hc:tK (List.replicate (((2^(m+t):Nat):Int).toNat) (Ext.mk 0 0)) 0 (min (kv l).length (List.replicate (((2^(m+t):Nat):Int).toNat) (Ext.mk 0 0)).length) (kv l)=kv (a0p l (2^(m+t))):=by
  rw [List.length_replicate,Int.toNat_natCast,aZ,h,Nat.min_eq_left hq,c0O,h,tK]
  simp [aZ,h,e0]
  exact List.take_of_length_le (by rw [aZ,h];omega)
 rw [brd om,aZ,h,b6O m om t om,Xi om om om, ←h, ←aZ l,hc]
 unfold a1U
 rw [aZ,Ox h,c1j _ hk,obs,QU om,obs,Xo hk (V6 _) (Ox h),obs,obs];rfl
end Go.AI.Fn
set_option linter.unusedVariables false
set_option linter.unusedSimpArgs false
namespace Go.AI.Fn
def stK (l:List K) (j:Nat):List K:=(List.range l.length).map fun m=>if m/2^j%2=1 then l.getD m 0-l.getD (m-2^j) 0 else l.getD m 0
theorem b4L (l:List K) (j:Nat):(stK l j).length=l.length:=by simp [stK]
def stP (l:List K) (j i:Nat):List K:=(List.range l.length).map fun m=>if m<i∧m/2^j%2=1 then l.getD m 0-l.getD (m-2^j) 0 else l.getD m 0
theorem zY (l:List K) (j i:Nat):(stP l j i).length=l.length:=by simp [stP]
theorem Mc {l:List K} {j i m:Nat} (h:m<l.length):(stP l j i).getD m 0=if m<i∧m/2^j%2=1 then l.getD m 0-l.getD (m-2^j) 0 else l.getD m 0:=by rw [stP,a2p h]
theorem b5y (l:List K):(List.range l.length).map (fun m=>l.getD m 0)=l:=WL (by simp) fun j hj=>by
 rw [List.length_map,List.length_range] at hj;rw [a2p hj]
theorem a9I (l:List K) (j:Nat):stP l j 0=l:=by
 rw [stP];exact (List.map_congr_left fun m _=>by rw [if_neg om]).trans (b5y l)
theorem b4M (l:List K) (j:Nat):stP l j l.length=stK l j:=by
 rw [stP,stK]
 refine List.map_congr_left fun m hm=> ?_
 have:=List.mem_range.1 hm
 by_cases c:m/2^j%2=1
 ·rw [if_pos ⟨this,c⟩,if_pos c]
 ·rw [if_neg fun h=>c h.2,if_neg c]
theorem b0O {l:List K} {j i:Nat} (h:i/2^j%2=0):stP l j (i+1)=stP l j i:=by
 rw [stP,stP]
 refine List.map_congr_left fun m hm=> ?_
 by_cases c:m/2^j%2=1
 ·have:m≠i:=fun e=>by subst e;omega
  by_cases c2:m<i
  ·rw [if_pos ⟨by omega,c⟩,if_pos ⟨c2,c⟩]
  ·rw [if_neg om,if_neg om]
 ·rw [if_neg fun h=>c h.2,if_neg fun h=>c h.2]
theorem b4l {l:List K} {j i:Nat} (hi:i<l.length) (h:i/2^j%2=1):(stP l j i).set i (l.getD i 0-l.getD (i-2^j) 0)=stP l j (i+1):=by
 refine WL (by rw [List.length_set,zY,zY]) fun m hm=> ?_
 rw [List.length_set,zY] at hm
 rw [Mc hm]
 by_cases c:m=i
 ·subst c
  rw [if_pos ⟨by omega,h⟩]
  simp [zY,hm]
 ·have:((stP l j i).set i (l.getD i 0-l.getD (i-2^j) 0)).getD m 0=(stP l j i).getD m 0:=by
   simp [List.getElem?_set,show ¬i=m by omega]
  rw [this,Mc hm]
  by_cases c2:m/2^j%2=1
  ·by_cases c3:m<i
   ·rw [if_pos ⟨c3,c2⟩,if_pos ⟨by omega,c2⟩]
   ·rw [if_neg om,if_neg om]
  ·rw [if_neg fun h=>c2 h.2,if_neg fun h=>c2 h.2]
theorem c44: ∀i:Nat,i<64→ ∀j:Nat,j<6→(bo .i64 (i:Int) ((2^j:Nat):Int)==0)=decide (i/2^j%2=0):=by decide+kernel
theorem c41: ∀i:Nat,i<64→ ∀j:Nat,j<6→i/2^j%2=1→io .i64 (i:Int) ((2^j:Nat):Int)=((i-2^j:Nat):Int)∧2^j≤i∧(i-2^j)/2^j%2=0:=by decide+kernel
def cfK:Nat→List K→List K
 |0,l=>l
 |j+1,l=>stK (cfK j l) j
theorem Do (l:List K): ∀j,(cfK j l).length=l.length
 |0=>rfl
 |j+1=>by rw [cfK,b4L,Do l j]
theorem c2h: ∀k:Nat,k≤6→1≤2^k∧2^k≤64:=by decide
theorem a8u (k:Nat) (hk:k+1≤9):IntKind.wrap .i64 (((2^(k+1):Nat):Int).tdiv 2)=((2^k:Nat):Int):=by
 have hp:=UN (k+1) hk
 have hs:2^(k+1)=2*2^k:=by rw [Nat.pow_succ];omega
 rw [lU _ _ om,aa _ om om];omega
def lfK (k:Nat) (W:List K) (i:Nat):List UInt8:=[(W.getD i 0).1,(W.getD (i+2^k) 0).1].flatMap e8
def lvK (k:Nat) (W:List K):List (List UInt8):=(List.range (2^k)).map (lfK k W)
theorem Mf (k:Nat) (W:List K):(lvK k W).length=2^k:=by simp [lvK]
theorem b5j (k:Nat) (W:List K) (i:Nat):(lfK k W i).length=16:=by rw [lfK,a2k];rfl
theorem a3r (k:Nat) (W:List K):b6T (lvK k W):=fun x hx=>by
 obtain ⟨i,_,rfl⟩:=List.mem_map.1 hx;rw [b5j];omega
def wrK (k:Nat) (W:List K):List UInt8:=ZY ((lvK k W).map hL) k
theorem b6w {row:List Tx} {k:Nat} (h:Hs row) (hl:row.length=2^k):(ZY row k).length=32:=(a1T h k).getD (by rw [uI hl k (Nat.le_refl k),Nat.sub_self];decide)
theorem Sf (k:Nat) (W:List K):(wrK k W).length=32:=b6w (WM _) (by rw [List.length_map,Mf])
end Go.AI.Fn
set_option linter.unusedVariables false
set_option linter.unusedSimpArgs false
namespace Go.AI.Fn
def c3E (n:Nat) (p:Nat→Bool):Bool:=(List.range n).all p
def h32 (x:List UInt8):Bool:=decide (x.length=32)
def c3V (vars:Int) (t:Setting) (q:cc) (j:Nat):Bool:=decide (((q.Paths.getD j []).length:Int)=vars+t.Rate-1-j)&&(q.Paths.getD j []).all h32
def c3Z (vars:Int) (t:Setting) (q:cc):Bool:=decide ((q.Pairs.length:Int)=2*vars)&&(q.Pairs.all Qp&&(decide ((q.Paths.length:Int)=vars)&&c3E vars.toNat (c3V vars t q)))
structure SmO (o:aV):Prop where
 rn:o.Rounds.length≤1099511627776
 rr: ∀g∈o.Rounds,g.length≤1099511627776
 ro:o.Roots.length≤1099511627776
 qn:o.Queries.length≤1099511627776
 qp: ∀q∈o.Queries,q.Pairs.length≤1099511627776
 qt: ∀q∈o.Queries, ∀p∈q.Paths,p.length≤1099511627776
end Go.AI.Fn
set_option linter.unusedVariables false
set_option linter.unusedSimpArgs false
namespace Go.AI.Fn
end Go.AI.Fn
set_option linter.unusedVariables false
set_option linter.unusedSimpArgs false
namespace Go.AI.Fn
def wdK:Nat→List K→List K→List K
 |_,W,[]=>W
 |m,W,r::P=>wdK (m-1) (fwK (m-1) W r) P
def Nc:Nat→List K→List K→List (List K)
 |_,_,[]=>[]
 |m,W,r::P=>W::Nc (m-1) (fwK (m-1) W r) P
def ZM:Nat→List K→List K→List (List UInt8)
 |_,_,[]=>[]
 |m,W,r::P=>(if P.length=0 then [] else [wrK (m-2) (fwK (m-1) W r)])++ZM (m-1) (fwK (m-1) W r) P
theorem Oz: ∀(P:List K) (m:Nat) (W:List K),(Nc m W P).length=P.length
 |[],_,_=>rfl
 |r::P,m,W=>by rw [Nc,List.length_cons,Oz P,List.length_cons]
def bhO (v ρ:Nat) (W P:List K) (s:Source):Source:=if P.length<v then tkM s (wrK (v+ρ-P.length-1) (wdK (v+ρ) W P)) else s
theorem b1M (v ρ:Nat) (W:List K):b3D (bhO v ρ W):=fun P s k h hk=>by
 unfold bhO;split
 ·exact h.take _
 ·exact h.mono om
end Go.AI.Fn
set_option linter.unusedVariables false
set_option linter.unusedSimpArgs false
namespace Go.AI.Fn
def prK:Nat→List (List K)→Nat→List K
 |_,[],_=>[]
 |m,W::Ws,k=>W.getD (k%2^(m-1)) 0::W.getD (k%2^(m-1)+2^(m-1)) 0::prK (m-1) Ws (k%2^(m-1))
def ptK:Nat→List (List K)→Nat→List (List (List UInt8))
 |_,[],_=>[]
 |m,W::Ws,k=>AG ((lvK (m-1) W).map hL) (m-1) (k%2^(m-1))::ptK (m-1) Ws (k%2^(m-1))
def a3x:Nat→List (List K)→Prop
 |_,[]=>True
 |m,W::Ws=>W.length=2^m∧1≤m∧a3x (m-1) Ws
theorem a1V: ∀(P:List K) (m:Nat) (W:List K),W.length=2^m→P.length≤m→a3x m (Nc m W P)
 |[],_,_,_,_=>trivial
 |r::P,m,W,h,hm=>by
  rw [List.length_cons] at hm
  exact ⟨h,by omega,a1V P (m-1) _ (Th _ _ _) om⟩
def qsM (m:Nat) (Ws:List (List K)) (p:Int):cc:=⟨kv (prK m Ws p.toNat),ptK m Ws p.toNat⟩
end Go.AI.Fn
set_option linter.unusedVariables false
set_option linter.unusedSimpArgs false
namespace Go.AI.Fn
variable {kind:Nat}
theorem b6C {s:Source} {k:Int} (h:Few s k) (hk:k≤900000): ∃n,ib s=some n∧100000≤n∧n≤1000000:=by
 have hmx:=b0g h.2 h.3
 have h0:0≤mx s.At s.Count:=by have:=h.1.4;have:=h.1.6;unfold mx;split<;>assumption
 unfold ib
 rw [aa _ om om]
 exact ⟨_,rfl,by omega,by omega⟩
end Go.AI.Fn
set_option linter.unusedVariables false
set_option linter.unusedSimpArgs false
namespace Go.AI.Fn
def opW (v ρ:Nat) (t:List K):List K:=Enc v ρ (cfK v t)
def opQ (v ρ:Nat) (t P:List K) (s:Source):List (List K)×List K×List (List K)×Source:=pvM 1 (bhO v ρ (opW v ρ t)) v [] [t,eqK P] s
def opL (v ρ:Nat) (t P:List K) (s:Source):K:=((opQ v ρ t P s).2.2.1.getD 0 []).getD 0 0
def opS (v ρ:Nat) (t P:List K) (s:Source):Source:=rsM (opQ v ρ t P s).2.2.2 [opL v ρ t P s]
def opT (v ρ n:Nat) (t P:List K) (s:Source):Source:=tkM (opS v ρ t P s) (nO (n:Int))
def opO (v ρ nq n:Nat) (t P:List K) (s:Source):aV:=
 ⟨kvv (opQ v ρ t P s).1,ZM (v+ρ) (opW v ρ t) (opQ v ρ t P s).2.1,(opL v ρ t P s).1,(n:Int),(plM (drL (opT v ρ n t P s) nq) ((2^(v+ρ-1):Nat):Int)).map (qsM (v+ρ) (Nc (v+ρ) (opW v ρ t) (opQ v ρ t P s).2.1))⟩
noncomputable def opG (v ρ nq:Nat) (t P:List K) (s:Source):Option Nat→aV×Source×Bool
 |none=>(⟨[],[],⟨0,0⟩,0,[]⟩,opS v ρ t P s,false)
 |some n=>(opO v ρ nq n t P s,drS (opT v ρ n t P s) nq,true)
noncomputable def IA (v ρ nq bits:Nat) (t P:List K) (s:Source):aV×Source×Bool:=opG v ρ nq t P s (zX (opS v ρ t P s).State bits)
theorem a0z {v ρ nq bits:Nat} {t P:List K} {s:Source} (h:zX (opS v ρ t P s).State bits=none):IA v ρ nq bits t P s=(⟨[],[],⟨0,0⟩,0,[]⟩,opS v ρ t P s,false):=by
 rw [IA,h,opG]
theorem Yu {v ρ nq bits n:Nat} {t P:List K} {s:Source} (h:zX (opS v ρ t P s).State bits=some n):IA v ρ nq bits t P s=(opO v ρ nq n t P s,drS (opT v ρ n t P s) nq,true):=by
 rw [IA,h,opG]
theorem Gs {v ρ:Nat} {t:List K} (ht:t.length=2^v):(opW v ρ t).length=2^(v+ρ):=b3f (by rw [Do];exact ht)
theorem c1p {v:Nat} {t P:List K} (ht:t.length=2^v) (hP:P.length=v):OkT 1 (2^v) [t,eqK P]:=⟨.inl rfl,rfl,fun i hi=>by
 have hi2:i<2:=hi
 match i,hi2 with
 |0,_=>exact ht
 |1,_=>exact (Sr P).trans (by rw [hP])⟩
variable {v ρ:Nat} {t P:List K} {s:Source} {k:Int}
theorem a1g (hf:Few s k) (hk:k+3*v≤900):Few (opQ v ρ t P s).2.2.2 (k+3*v):=SA (b1M v ρ _) v [] _ s k hf om
theorem a1j (hf:Few s k) (hk:k+3*v≤900):Few (opS v ρ t P s) (k+3*v+1):=(a1g hf hk).take _
theorem b2X (hf:Few s k) (hk:k+3*v≤900) (n:Nat):Few (opT v ρ n t P s) (k+3*v+1+1):=(a1j hf hk).take _
theorem b9j {l:List Ext} (h:gJ l) {m:Nat} (h1:1≤m) (h2:m≤1000000): ∀x∈plM l (m:Int),0≤x∧x≤1000000:=fun x hx=>by
 obtain ⟨y,hy,rfl⟩:=List.mem_map.1 hx
 have h0:=Int.emod_nonneg y.A (b:=(m:Int)) om
 have h3:=Int.emod_lt_of_pos y.A (b:=(m:Int)) om
 omega
theorem b4G (v ρ:Nat) (t P:List K) (s:Source):(opQ v ρ t P s).1.length=v∧(opQ v ρ t P s).2.1.length=v:=K4 v _ _ _
end Go.AI.Fn
set_option linter.unusedVariables false
set_option linter.unusedSimpArgs false
namespace Go.AI.Fn
end Go.AI.Fn
set_option linter.unusedVariables false
set_option linter.unusedSimpArgs false
namespace Go.AI.Fn
def c45 (due:Option K) (x:K):Prop:= ∃d,due=some d∧x≠d
noncomputable instance b8x (due:Option K) (x:K):Decidable (c45 due x):=Classical.propDecidable _
variable {v ρ:Nat} {t P:List K} {s:Source} {k:Int}
end Go.AI.Fn
set_option linter.unusedVariables false
set_option linter.unusedSimpArgs false
namespace Go.AI.Fn
end Go.AI.Fn
set_option linter.unusedVariables false
set_option linter.unusedSimpArgs false
namespace Go.AI.Fn
theorem a6K {l:List K} {j:Nat} (hl:l.length≤64) (hj:j<6):Loop (cI ((2^j:Nat):Int) (l.length:Int)) (kv l,0)=some (kv (stK l j),(l.length:Int),false):=by
 have key:=aH (step:=cI ((2^j:Nat):Int) (l.length:Int)) (fun i=>(kv (stP l j i),(i:Int))) l.length (e:=(kv (stK l j),(l.length:Int),false)) (fun i hi=> ?_) ?_
 ·have key':Loop (cI ((2^j:Nat):Int) (l.length:Int)) (kv (stP l j 0),0)=_:=key
  rw [a9I] at key';exact key'
 ·simp only [cI]
  have hb:=c44 i om j hj
  have hlen:(kv (stP l j i)).length=l.length:=by rw [aZ,zY]
  have hq:1≤2^j:=Nat.one_le_two_pow
  have hb2:(bo .i64 (i:Int) ((2^j:Nat):Int) !=0)= !decide (i/2^j%2=0):=by rw [bne,hb]
  rw [brd om,hb2]
  by_cases c:i/2^j%2=0
  ·rw [decide_eq_true c,Bool.not_true,aK,aa _ om om,b0O c];rfl
  ·obtain ⟨h1,h2,h3⟩:=c41 i om j hj om
   have h4:IntKind.wrap .i64 ((i:Int)-((2^j:Nat):Int))=((i-2^j:Nat):Int):=by rw [aa _ om om];omega
   rw [decide_eq_false c,Bool.not_false,bM,h4]
   simp only [Int.toNat_natCast]
   rw [brd om,brd om,Hd (by rw [zY];omega),obs,brd om,brd om,Hd (by rw [zY];omega),obs,Mc hi,if_neg om,Mc om,if_neg om,qa (Subtype.property _) (Subtype.property _),obs,brd om,brd om,obs,aa _ om om, ←b4l hi om]
   rw [kv,kv,List.map_set];rfl
 ·simp only [cI]
  rw [brn om,decide_eq_false om,b4M]
theorem MB {l:List K} {v:Nat} (h:l.length=2^v) (hv:v≤6):uS (kv l)=some (kv (cfK v l)):=by
 have hp:=c2h v hv
 unfold uS pd
 have key:=aH (step:=dw) (fun j=>(kv (cfK j l),((2^j:Nat):Int))) v (e:=(kv (cfK v l),((2^v:Nat):Int),false)) (fun j hj=> ?_) ?_
 ·have key':Loop dw (kv l,1)=_:=key
  rw [List.nil_append,aA (by rw [aZ];omega),key'];rfl
 ·have hlt:2^j<2^v:=Nat.pow_lt_pow_right om hj
  have hq:1≤2^j:=Nat.one_le_two_pow
  have hl:=Do l j
  simp only [dw,aZ]
  have hc2:=a6K (l:=cfK j l) (j:=j) om om
  rw [brd om,hc2,obs,aa _ om om,Nat.pow_succ];simp [cfK]
 ·have hl:=Do l v
  simp only [dw,aZ]
  rw [brn om,decide_eq_false om]
theorem VF {k:Nat} {W:List K} (hk:k+1≤9) (hW:W.length=2^(k+1)):vQ (kv W)=some (lvK k W):=by
 have hp:=UN (k+1) hk
 have hs:2^(k+1)=2*2^k:=by rw [Nat.pow_succ];omega
 have hh:=a8u k hk
 unfold vQ
 rw [aZ,hW,hh]
 have key:=aH (step:=gk (kv W) ((2^k:Nat):Int) ((2^k:Nat):Int)) (fun j=>((List.range j).map (lfK k W),(j:Int))) (2^k) (e:=(lvK k W,((2^k:Nat):Int),false)) (fun j hj=> ?_) ?_
 ·have key':Loop (gk (kv W) ((2^k:Nat):Int) ((2^k:Nat):Int)) ([],0)=_:=key
  rw [key'];rfl
 ·simp only [gk]
  rw [brd om,pH om,obs,aa ((j:Int)+_) om om,show (j:Int)+((2^k:Nat):Int)=((j+2^k:Nat):Int) by omega,pH om,obs,EV (by simp),obs,
   aA (by simp only [List.length_append,List.length_map,List.length_range,List.length_singleton];omega),aa _ om om,List.range_succ,List.map_append,List.map_singleton];rfl
 ·simp only [gk]
  rw [brn om,decide_eq_false om];rfl
def wtK (m:Nat) (W:List K):aG:=⟨kv W,pC ((lvK (m-1) W).map hL) (m-1)⟩
def yo:Nat→List (List K)→List aG
 |_,[]=>[]
 |m,W::Ws=>wtK m W::yo (m-1) Ws
theorem He: ∀(Ws:List (List K)) (m:Nat),(yo m Ws).length=Ws.length
 |[],_=>rfl
 |W::Ws,m=>by rw [yo,List.length_cons,He Ws,List.length_cons]
theorem Cb {k:Nat} {W:List K} (hk:k+1≤9) (hW:W.length=2^(k+1)):vS (kv W)=some (wtK (k+1) W):=by
 unfold vS
 rw [VF hk hW,obs,XB (a3r k W) (Mf k W) om,obs];rfl
theorem MF (k:Nat) (W:List K) (hk:k≤9):vA (wtK (k+1) W).rows=some (wrK k W):=Wc (by rw [List.length_map,Nat.add_sub_cancel,Mf]) hk
end Go.AI.Fn
set_option linter.unusedVariables false
set_option linter.unusedSimpArgs false
namespace Go.AI.Fn
theorem Wo {ρ:Nat} {V:Int} {bh:List K→Source→Source} (hb:b3D bh) (hρ:ρ≤3): ∀(v:Nat) (Q:List K) (T:List (List K)) (W:List K) (s:Source) (k:Int) (pre:List aG) (R:List (List Ext)) (P:List Ext) (Rt:List (List UInt8)),
 OkT 1 (2^(v+1)) T→W.length=2^(v+1+ρ)→Few s k→k+3*(v+1)≤1000→v+1≤6→R.length+(v+1)≤1000→P.length+(v+1)≤1000→Rt.length+(v+1)≤1000→(pre.length:Int)+v+1=V→V≤1000→
 (∀(P':List K) (s':Source),P'≠[]→P'.length≤v+1→bh (Q++P') s'=if P'.length<v+1 then tkM s' (wrK (v+1+ρ-P'.length-1) (wdK (v+1+ρ) W P')) else s')→
 Loop (aX ([]:List Ext) 1) (pre++[wtK (v+1+ρ) W],R,P,Rt,kvv T,s.Script,s.At,s.State,s.Count,V,0,0,0)=
  some (pre++yo (v+1+ρ) (Nc (v+1+ρ) W (pvM 1 bh (v+1) Q T s).2.1),R++kvv (pvM 1 bh (v+1) Q T s).1,P++kv (pvM 1 bh (v+1) Q T s).2.1,Rt++ZM (v+1+ρ) W (pvM 1 bh (v+1) Q T s).2.1,kvv (pvM 1 bh (v+1) Q T s).2.2.1,false,
   (pvM 1 bh (v+1) Q T s).2.2.2.Script,(pvM 1 bh (v+1) Q T s).2.2.2.At,(pvM 1 bh (v+1) Q T s).2.2.2.State,(pvM 1 bh (v+1) Q T s).2.2.2.Count,V,0,0,0):=by
 intro v
 induction v with
 |zero=>
  intro Q T W s k pre R P Rt hT hW hf hk hv h1 h2 h3 hV hV2 hbh
  have hl:=hT.len
  have hT2:=hT
  rw [Dd] at hT2
  have hW2:W.length=2^(ρ+1):=by rw [hW];congr 1;omega
  have hb1:=hbh [rdM s (rdK 1 T (2^0))] (nsM s (rdK 1 T (2^0))) (by simp) (by simp)
  rw [if_neg (by simp)] at hb1
  have hr1:o4 1 (kvv T)=some (kv (rdK 1 T (2^0))):=zC hT2 om
  have ho:=(hT.up (rdM s (rdK 1 T (2^0))))
  have hlast:(pre++[wtK (0+1+ρ) W])[pre.length]? =some (wtK (0+1+ρ) W):=by simp
  rw [ct (s':=(pre++[wtK (0+1+ρ) W],R++[kv (rdK 1 T (2^0))],P++[(rdM s (rdK 1 T (2^0))).1],Rt,kvv (bdK (rdM s (rdK 1 T (2^0))) T),(nsM s (rdK 1 T (2^0))).Script,(nsM s (rdK 1 T (2^0))).At,(nsM s (rdK 1 T (2^0))).State,(nsM s (rdK 1 T (2^0))).Count,V,0,0,0)) ?_]
  ·rw [dx (e:=(pre++[wtK (0+1+ρ) W],R++[kv (rdK 1 T (2^0))],P++[(rdM s (rdK 1 T (2^0))).1],Rt,kvv (bdK (rdM s (rdK 1 T (2^0))) T),false,(nsM s (rdK 1 T (2^0))).Script,(nsM s (rdK 1 T (2^0))).At,(nsM s (rdK 1 T (2^0))).State,(nsM s (rdK 1 T (2^0))).Count,V,0,0,0)) ?_]
   ·simp only [pvM,hb1,ZM,Nc,yo,kvv,kv,List.map_cons,List.map_nil,List.length_nil,reduceIte,List.append_nil]
   ·simp only [aX]
    rw [a7g (by simp [bdK];omega),obs,aZ,ho.tab 0 (by simp [bdK];omega),brn (by decide),decide_eq_false (by decide)]
  ·simp only [aX,jJ]
   rw [a7g om,obs,aZ,hT.tab 0 om,brd (by decide),hr1,obs,show Source.mk s.Script s.At s.State s.Count=s from rfl,JR hf.1 (by rw [U7];omega),obs,a9a hf,obs]
   dsimp only
   rw [zw hT2 om,obs,aA (by rw [List.length_append,List.length_singleton];omega),aA (by rw [List.length_append,List.length_singleton];omega),List.length_append,List.length_singleton,aa (((pre.length+1:Nat):Int)-1) om om,show ((pre.length+1:Nat):Int)-1=(pre.length:Int) by omega]
   simp only [Int.toNat_natCast]
   rw [brd om,brd om,hlast,obs]
   rw [show (wtK (0+1+ρ) W).word=kv W from rfl,EU _ om hW2,obs,bre om,obs]
 |succ v ih=>
  intro Q T W s k pre R P Rt hT hW hf hk hv h1 h2 h3 hV hV2 hbh
  have hl:=hT.len
  have hp:=c38 (v+1) om
  have hT2:=hT
  rw [Dd] at hT2
  have hm:v+1+1+ρ-1=v+1+ρ:=by omega
  have hW2:W.length=2^(v+1+ρ+1):=by rw [hW];congr 1;omega
  have hb1:=hbh [rdM s (rdK 1 T (2^(v+1)))] (nsM s (rdK 1 T (2^(v+1)))) (by simp) (by simp)
  simp only [wdK,List.length_singleton,hm] at hb1
  rw [if_pos om,show v+1+ρ-1=v+ρ by omega] at hb1
  have hin: ∀(P':List K) (s':Source),P'≠[]→P'.length≤v+1→bh (Q++[rdM s (rdK 1 T (2^(v+1)))]++P') s'=if P'.length<v+1 then tkM s' (wrK (v+1+ρ-P'.length-1) (wdK (v+1+ρ) (fwK (v+1+ρ) W (rdM s (rdK 1 T (2^(v+1))))) P')) else s':=fun P' s' hne hle=>by
   have:=hbh (rdM s (rdK 1 T (2^(v+1)))::P') s' (by simp) (by rw [List.length_cons];omega)
   rw [List.append_assoc,List.singleton_append,this,List.length_cons,wdK,hm,show v+1+1+ρ-(P'.length+1)-1=v+1+ρ-P'.length-1 by omega]
   by_cases hc:P'.length<v+1
   ·rw [if_pos hc,if_pos om]
   ·rw [if_neg hc,if_neg om]
  have hr1:o4 1 (kvv T)=some (kv (rdK 1 T (2^(v+1)))):=zC hT2 om
  have hlast:(pre++[wtK (v+1+1+ρ) W])[pre.length]? =some (wtK (v+1+1+ρ) W):=by simp
  have hlast2:(pre++[wtK (v+1+1+ρ) W]++[wtK (v+1+ρ) (fwK (v+1+ρ) W (rdM s (rdK 1 T (2^(v+1)))))])[pre.length+1]? =some (wtK (v+1+ρ) (fwK (v+1+ρ) W (rdM s (rdK 1 T (2^(v+1)))))):=by simp
  have hnf:=ZQ hf om (rdK 1 T (2^(v+1)))
  have hih:=ih (Q++[rdM s (rdK 1 T (2^(v+1)))]) (bdK (rdM s (rdK 1 T (2^(v+1)))) T) (fwK (v+1+ρ) W (rdM s (rdK 1 T (2^(v+1))))) (bh (Q++[rdM s (rdK 1 T (2^(v+1)))]) (nsM s (rdK 1 T (2^(v+1))))) (k+2+1) (pre++[wtK (v+1+1+ρ) W])
   (R++[kv (rdK 1 T (2^(v+1)))]) (P++[(rdM s (rdK 1 T (2^(v+1)))).1]) (Rt++[wrK (v+ρ) (fwK (v+1+ρ) W (rdM s (rdK 1 T (2^(v+1)))))]) (hT.up _) (Th _ _ _) (hb _ _ _ hnf om) om om (by rw [List.length_append,List.length_singleton];omega) (by rw [List.length_append,List.length_singleton];omega) (by rw [List.length_append,List.length_singleton];omega)
   (by rw [List.length_append,List.length_singleton];omega) hV2 hin
  have hpl:=(K4 (kind:=1) (bh:=bh) (v+1) (Q++[rdM s (rdK 1 T (2^(v+1)))]) (bdK (rdM s (rdK 1 T (2^(v+1)))) T) (bh (Q++[rdM s (rdK 1 T (2^(v+1)))]) (nsM s (rdK 1 T (2^(v+1)))))).2
  rw [ct (s':=(pre++[wtK (v+1+1+ρ) W]++[wtK (v+1+ρ) (fwK (v+1+ρ) W (rdM s (rdK 1 T (2^(v+1)))))],R++[kv (rdK 1 T (2^(v+1)))],P++[(rdM s (rdK 1 T (2^(v+1)))).1],Rt++[wrK (v+ρ) (fwK (v+1+ρ) W (rdM s (rdK 1 T (2^(v+1)))))],kvv (bdK (rdM s (rdK 1 T (2^(v+1)))) T),(bh (Q++[rdM s (rdK 1 T (2^(v+1)))]) (nsM s (rdK 1 T (2^(v+1))))).Script,(bh (Q++[rdM s (rdK 1 T (2^(v+1)))]) (nsM s (rdK 1 T (2^(v+1))))).At,(bh (Q++[rdM s (rdK 1 T (2^(v+1)))]) (nsM s (rdK 1 T (2^(v+1))))).State,(bh (Q++[rdM s (rdK 1 T (2^(v+1)))]) (nsM s (rdK 1 T (2^(v+1))))).Count,V,0,0,0)) ?_]
  ·rw [hih]
   have e1:pvM 1 bh (v+1+1) Q T s=(rdK 1 T (2^(v+1))::(pvM 1 bh (v+1) (Q++[rdM s (rdK 1 T (2^(v+1)))]) (bdK (rdM s (rdK 1 T (2^(v+1)))) T) (bh (Q++[rdM s (rdK 1 T (2^(v+1)))]) (nsM s (rdK 1 T (2^(v+1)))))).1,
    rdM s (rdK 1 T (2^(v+1)))::(pvM 1 bh (v+1) (Q++[rdM s (rdK 1 T (2^(v+1)))]) (bdK (rdM s (rdK 1 T (2^(v+1)))) T) (bh (Q++[rdM s (rdK 1 T (2^(v+1)))]) (nsM s (rdK 1 T (2^(v+1)))))).2.1,
    (pvM 1 bh (v+1) (Q++[rdM s (rdK 1 T (2^(v+1)))]) (bdK (rdM s (rdK 1 T (2^(v+1)))) T) (bh (Q++[rdM s (rdK 1 T (2^(v+1)))]) (nsM s (rdK 1 T (2^(v+1)))))).2.2):=rfl
   rw [e1]
   simp only [ZM,Nc,yo,hm,hpl,kvv,kv,List.map_cons,List.append_assoc,List.singleton_append,show v+1+1+ρ-2=v+ρ by omega]
   rw [if_neg om];rfl
  ·simp only [aX,jJ]
   rw [a7g om,obs,aZ,hT.tab 0 om,Dd,brd om,hr1,obs,show Source.mk s.Script s.At s.State s.Count=s from rfl,JR hf.1 (by rw [U7];omega),obs,a9a hf,obs]
   dsimp only
   rw [zw hT2 om,obs,aA (by rw [List.length_append,List.length_singleton];omega),aA (by rw [List.length_append,List.length_singleton];omega),show (pre++[wtK (v+1+1+ρ) W]).length=pre.length+1 by simp,aa (((pre.length+1:Nat):Int)-1) om om,show ((pre.length+1:Nat):Int)-1=(pre.length:Int) by omega]
   simp only [Int.toNat_natCast]
   rw [brd om,brd om,hlast,obs]
   rw [show (wtK (v+1+1+ρ) W).word=kv W from rfl,EU _ om hW2,obs,bc om,Cb (k:=v+ρ) om (by rw [Th];congr 1;omega),obs,show v+ρ+1=v+1+ρ by omega]
   rw [show (pre++[wtK (v+1+1+ρ) W]++[wtK (v+1+ρ) (fwK (v+1+ρ) W (rdM s (rdK 1 T (2^(v+1)))))]).length=pre.length+1+1 by simp,aA om,aa (((pre.length+1+1:Nat):Int)-1) om om,show ((pre.length+1+1:Nat):Int)-1=((pre.length+1:Nat):Int) by omega]
   simp only [Int.toNat_natCast]
   rw [brd om,brd om,hlast2,obs,show v+1+ρ=v+ρ+1 by omega,MF _ _ om,obs,aA (by rw [List.length_append,List.length_singleton];omega),aA (by rw [Sf];omega),su hnf.1.3 (by rw [Sf];omega),obs,obs,show v+ρ+1=v+1+ρ by omega,hb1]
end Go.AI.Fn
set_option linter.unusedVariables false
set_option linter.unusedSimpArgs false
namespace Go.AI.Fn
theorem Vh (p q:Nat):p%2^(q+1)%2^q=p%2^q:=Nat.mod_mod_of_dvd p ⟨2,by rw [Nat.pow_succ]⟩
theorem b6q: ∀(Ws:List (List K)) (m p:Nat),a3x m Ws→prK m Ws (p%2^m)=prK m Ws p
 |[],_,_,_=>rfl
 |W::Ws,m,p,h=>by
  obtain ⟨q,rfl⟩: ∃q,m=q+1:=⟨m-1,by have:=h.2.1;omega⟩
  simp only [prK,Nat.add_sub_cancel,Vh]
theorem b5h: ∀(Ws:List (List K)) (m p:Nat),a3x m Ws→ptK m Ws (p%2^m)=ptK m Ws p
 |[],_,_,_=>rfl
 |W::Ws,m,p,h=>by
  obtain ⟨q,rfl⟩: ∃q,m=q+1:=⟨m-1,by have:=h.2.1;omega⟩
  simp only [ptK,Nat.add_sub_cancel,Vh]
theorem Gq {l5:List (List UInt8)} {l6:List cc} {t5:List Int} {t6 t7 N c17 c19 c20 c21 c22 c23 c24 c25 c27 c28 c29 c30:Int} {c16:List Ext} {c18:List UInt8} {c26:List (List Ext)}: ∀(Ws:List (List K)) (pre:List aG) (m p:Nat) (A:List Ext) (B:List (List (List UInt8))),
 a3x m Ws→m≤9→pre.length+Ws.length≤100→A.length+2*Ws.length≤1000→B.length+Ws.length≤1000→p≤1000000→N=((pre++yo m Ws).length:Int)→
 Loop (fc (pre++yo m Ws) l5 l6 (p:Int) t5 t6 t7 N c16 c17 c18 c19 c20 c21 c22 c23 c24 c25 c26 c27 c28 c29 c30) (A,B,(pre.length:Int))=
  some (A++kv (prK m Ws p),B++ptK m Ws p,N,false)
 |[],pre,m,p,A,B,h,hm,h1,h2,h3,hk,hN=>by
  rw [yo,List.append_nil] at hN
  refine dx ?_
  simp only [fc]
  rw [brn om,decide_eq_false om, ←hN]
  simp [prK,ptK,kv]
 |W::Ws,pre,m,p,A,B,h,hm,h1,h2,h3,hk,hN=>by
  obtain ⟨hW,hm1,hws⟩:=h
  rw [List.length_cons] at h1 h2 h3
  obtain ⟨q,rfl⟩: ∃q,m=q+1:=⟨m-1,by omega⟩
  have hp:=UN (q+1) hm
  have hs:2^(q+1)=2*2^q:=by rw [Nat.pow_succ];omega
  have hh:=a8u q hm
  have hq:p%2^q<2^q:=Nat.mod_lt _ om
  have hL2:(pre++yo (q+1) (W::Ws)).length=pre.length+(Ws.length+1):=by rw [List.length_append,He,List.length_cons]
  have hlt:(pre.length:Int)<N:=by rw [hN,hL2];omega
  have hget:(pre++yo (q+1) (W::Ws))[pre.length]? =some (wtK (q+1) W):=by simp [yo]
  have hmod:(p:Int).tmod ((2^q:Nat):Int)=((p%2^q:Nat):Int):=by rw [cg _ _ om];omega
  have ih:=Gq (l5:=l5) (l6:=l6) (t5:=t5) (t6:=t6) (t7:=t7) (N:=N) (c16:=c16) (c17:=c17) (c18:=c18) (c19:=c19) (c20:=c20) (c21:=c21) (c22:=c22) (c23:=c23) (c24:=c24) (c25:=c25) (c26:=c26) (c27:=c27) (c28:=c28) (c29:=c29) (c30:=c30)
   Ws (pre++[wtK (q+1) W]) q p (A++[(W.getD (p%2^q) 0).1,(W.getD (p%2^q+2^q) 0).1]) (B++[AG ((lvK q W).map hL) q (p%2^q)]) hws om (by rw [List.length_append,List.length_singleton];omega)
   (by rw [List.length_append];simp only [List.length_cons,List.length_nil];omega) (by rw [List.length_append,List.length_singleton];omega) om (by rw [hN,hL2,List.append_assoc,List.length_append,List.singleton_append,List.length_cons,He])
  rw [List.append_assoc,List.singleton_append,List.length_append,List.length_singleton] at ih
  rw [ct (s':=(A++[(W.getD (p%2^q) 0).1,(W.getD (p%2^q+2^q) 0).1],B++[AG ((lvK q W).map hL) q (p%2^q)],((pre.length+1:Nat):Int))) ?_]
  ·rw [show pre++yo (q+1) (W::Ws)=pre++wtK (q+1) W::yo q Ws from rfl,ih]
   simp only [prK,ptK,Nat.add_sub_cancel,b6q Ws q p hws,b5h Ws q p hws]
   simp [kv]
  ·simp only [fc,Int.toNat_natCast]
   rw [brd hlt,brd om,brd (by rw [hL2];omega),hget,obs,show (wtK (q+1) W).word=kv W from rfl,aZ,hW,hh,hmod,brd om,pH om,obs,aa (((p%2^q:Nat):Int)+_) om om,show ((p%2^q:Nat):Int)+((2^q:Nat):Int)=((p%2^q+2^q:Nat):Int) by omega,pH om,obs,
    aA (by rw [List.length_append];simp only [List.length_cons,List.length_nil];omega),show (wtK (q+1) W).rows=pC ((lvK q W).map hL) q from rfl,XT (by rw [List.length_map,Mf]) om hq,obs,aA (by rw [List.length_append,List.length_singleton];omega),aa _ om om];rfl
theorem Nt {l2:List (List UInt8)} {c2 c4 c5 c6 c7 c8 c9 c10 c12 c13 c14 c15:Int} {c:List Ext} {c3:List UInt8} {c11:List (List Ext)} {Ws:List (List K)} {m:Nat} {pl:List Int} (h:a3x m Ws) (hm:m≤9) (hl:Ws.length≤100) (hp:pl.length≤1000) (hr: ∀x∈pl,0≤x∧x≤1000000):
 Loop (dK (yo m Ws) l2 pl (pl.length:Int) c c2 c3 c4 c5 c6 c7 c8 c9 c10 c11 c12 c13 c14 c15) ([],0)=some (pl.map (qsM m Ws),(pl.length:Int),false):=by
 refine aH (step:=dK (yo m Ws) l2 pl (pl.length:Int) c c2 c3 c4 c5 c6 c7 c8 c9 c10 c11 c12 c13 c14 c15) (fun j=>((pl.take j).map (qsM m Ws),(j:Int))) pl.length (fun j hj=> ?_) ?_
 ·have hx:=hr _ (List.getElem_mem hj)
  have hq:=Gq (l5:=l2) (l6:=(pl.take j).map (qsM m Ws)) (t5:=pl) (t6:=(pl.length:Int)) (t7:=(j:Int)) (N:=((yo m Ws).length:Int)) (c16:=c) (c17:=c2) (c18:=c3) (c19:=c4) (c20:=c5) (c21:=c6) (c22:=c7) (c23:=c8) (c24:=c9) (c25:=c10) (c26:=c11) (c27:=c12) (c28:=c13) (c29:=c14) (c30:=c15)
   Ws [] m (pl[j].toNat) [] [] h hm (by rw [List.length_nil];omega) (by rw [List.length_nil];omega) (by rw [List.length_nil];omega) om rfl
  rw [List.nil_append,Int.toNat_of_nonneg hx.1,List.length_nil] at hq
  simp only [dK]
  rw [brd om,bN hj,obs,show ((0:Int))=((0:Nat):Int) from rfl,hq,obs,aA (by rw [List.length_append,List.length_map,List.length_take,List.length_singleton];omega),aa _ om om,bt hj,List.map_append];rfl
 ·simp only [dK]
  rw [brn om,decide_eq_false om,List.take_of_length_le om]
variable {v ρ:Nat} {t P:List K} {s:Source} {k:Int}
theorem a6b {st:Setting} {nq bits:Nat} (ht:t.length=2^v) (hP:P.length=v) (hv1:1≤v) (hv:v≤6) (hρ:ρ≤3) (hq1:nq≤8) (hb:bits≤12) (e1:st.Rate=(ρ:Int)) (e2:st.Queries=(nq:Int)) (e3:st.Grind=(bits:Int)) (hf:Few s k) (hk:k≤800):
 mS (kv t) (kv P) st s=some ((IA v ρ nq bits t P s).1,(IA v ρ nq bits t P s).2.2,(IA v ρ nq bits t P s).2.1):=by
 have hk0:0≤k:=by have:=hf.2;have:=hf.1.4;omega
 have hp:=c2h v hv
 have hkk:k+3*v≤900:=by omega
 obtain ⟨u,rfl⟩: ∃u,v=u+1:=⟨v-1,by omega⟩
 obtain ⟨q,hq⟩: ∃q,u+1+ρ=q+1:=⟨u+ρ,by omega⟩
 have hfQ:=a1g (ρ:=ρ) (t:=t) (P:=P) hf hkk
 have hfS:=a1j (ρ:=ρ) (t:=t) (P:=P) hf hkk
 have hloop:=Wo (V:=((u+1:Nat):Int)) (bh:=bhO (u+1) ρ (opW (u+1) ρ t)) (b1M (u+1) ρ _) hρ u [] [t,eqK P] (opW (u+1) ρ t) s k [] [] [] [] (c1p ht hP) (Gs ht) hf om hv (by rw [List.length_nil];omega) (by rw [List.length_nil];omega) (by rw [List.length_nil];omega) (by rw [List.length_nil];omega) om (fun P' s' _ _=>rfl)
 have hfin:OkT 1 1 (opQ (u+1) ρ t P s).2.2.1:=T9 (u+1) _ _ _ (c1p ht hP)
 have hrl:=(b4G (u+1) ρ t P s).2
 have hpo:=a1V (opQ (u+1) ρ t P s).2.1 (u+1+ρ) (opW (u+1) ρ t) (Gs ht) om
 have hwl:=Oz (opQ (u+1) ρ t P s).2.1 (u+1+ρ) (opW (u+1) ρ t)
 have hT0:(opQ (u+1) ρ t P s).2.2.1.length=2:=hfin.len
 have hlast:=fun c9 c10 c11 c12 c13 c14 c15 c16 l7 l8 l9 l11=>aH (step:=bj l7 l8 l9 l11 (kvv (opQ (u+1) ρ t P s).2.2.1) (((kvv (opQ (u+1) ρ t P s).2.2.1).length:Nat):Int) c9 c10 c11 c12 c13 c14 c15 c16) (fun j=>(kv ((mD (opQ (u+1) ρ t P s).2.2.1).take j),(j:Int))) (opQ (u+1) ρ t P s).2.2.1.length (e:=(kv (mD (opQ (u+1) ρ t P s).2.2.1),((opQ (u+1) ρ t P s).2.2.1.length:Int),false)) (fun j hj=>by
  simp only [bj,ut]
  rw [brd om,JZ hj,obs,kv0 (by rw [hfin.tab j hj];omega),obs,aA (by rw [List.length_append,aZ,List.length_take,yF,List.length_singleton];omega),aa _ om om,Ra hj,kvS];rfl) (by
  simp only [bj,ut]
  rw [brn om,decide_eq_false om,List.take_of_length_le (by rw [yF];omega)])
 have hps:bV 1 (kvv [t,eqK P]) s ((u+1:Nat):Int) 0 0 0 [wtK (u+1+ρ) (opW (u+1) ρ t)]=some (kvv (opQ (u+1) ρ t P s).1,kv (opQ (u+1) ρ t P s).2.1,kv (mD (opQ (u+1) ρ t P s).2.2.1),(opQ (u+1) ρ t P s).2.2.2,((u+1:Nat):Int),0,0,0,yo (u+1+ρ) (Nc (u+1+ρ) (opW (u+1) ρ t) (opQ (u+1) ρ t P s).2.1),ZM (u+1+ρ) (opW (u+1) ρ t) (opQ (u+1) ρ t P s).2.1):=by
  unfold bV
  rw [List.nil_append] at hloop
  rw [hloop,obs]
  simp only [List.nil_append]
  rw [show pvM 1 (bhO (u+1) ρ (opW (u+1) ρ t)) (u+1) [] [t,eqK P] s=opQ (u+1) ρ t P s from rfl]
  have hl2:=hlast (opQ (u+1) ρ t P s).2.2.2.Script (opQ (u+1) ρ t P s).2.2.2.At (opQ (u+1) ρ t P s).2.2.2.State (opQ (u+1) ρ t P s).2.2.2.Count ((u+1:Nat):Int) 0 0 0 (yo (u+1+ρ) (Nc (u+1+ρ) (opW (u+1) ρ t) (opQ (u+1) ρ t P s).2.1)) (kvv (opQ (u+1) ρ t P s).1) (kv (opQ (u+1) ρ t P s).2.1) (ZM (u+1+ρ) (opW (u+1) ρ t) (opQ (u+1) ρ t P s).2.1)
  rw [List.take_zero] at hl2
  rw [show (([]:List Ext),(0:Int))=(kv [],((0:Nat):Int)) from rfl,hl2];rfl
 have hll:mD (opQ (u+1) ρ t P s).2.2.1=[opL (u+1) ρ t P s,((opQ (u+1) ρ t P s).2.2.1.getD 1 []).getD 0 0]:=by
  match hx:(opQ (u+1) ρ t P s).2.2.1,hT0 with
  |[x,y],_=>simp only [mD,opL,hx];rfl
 unfold mS
 rw [MB ht hv,obs,e1,Gk (m:=u+1) (t:=ρ) om (by rw [Do];exact ht),obs,show Enc (u+1) ρ (cfK (u+1) t)=opW (u+1) ρ t from rfl,Cb (k:=q) om (by rw [←hq];exact Gs ht),obs,uk (QX P) (by rw [aZ];omega),obs,Nd,aZ,hP, ←hq,
  show ([kv t,kv (eqK P)]:List (List Ext))=kvv [t,eqK P] from rfl,hps,obs]
 dsimp only
 rw [hll,show kv [opL (u+1) ρ t P s,((opQ (u+1) ρ t P s).2.2.1.getD 1 []).getD 0 0]=[(opL (u+1) ρ t P s).1,(((opQ (u+1) ρ t P s).2.2.1.getD 1 []).getD 0 0).1] from rfl,show atL [(opL (u+1) ρ t P s).1,(((opQ (u+1) ρ t P s).2.2.1.getD 1 []).getD 0 0).1] 0=some (opL (u+1) ρ t P s).1 from rfl,obs,
  show ([(opL (u+1) ρ t P s).1]:List Ext)=kv [opL (u+1) ρ t P s] from rfl,JR hfQ.1 (by simp),obs,show rsM (opQ (u+1) ρ t P s).2.2.2 [opL (u+1) ρ t P s]=opS (u+1) ρ t P s from rfl,e3,a0S hfS.1.3 hb,obs]
 cases hg:zX (opS (u+1) ρ t P s).State bits with
 |none=>
  dsimp only
  rw [a0z hg,brd (by decide)]
 |some n=>
  have hfT:=b2X (ρ:=ρ) (t:=t) (P:=P) hf hkk n
  dsimp only
  rw [Yu hg,brn (show ¬(((n:Nat):Int)<0) from Int.not_lt.2 (Int.natCast_nonneg n)),Dh,obs,su hfS.1.3 (by rw [eP];omega),obs,show tkM (opS (u+1) ρ t P s) (nO (n:Int))=opT (u+1) ρ n t P s from rfl,e2,Fa hfT om om,obs,brd (by rw [He,hwl];omega)]
  have hgt:(yo (u+1+ρ) (Nc (u+1+ρ) (opW (u+1) ρ t) (opQ (u+1) ρ t P s).2.1))[0]? =some (wtK (u+1+ρ) (opW (u+1) ρ t)):=by
   match hL:(opQ (u+1) ρ t P s).2.1,hrl with
   |r::L,_=>rfl
   |[],h=>exfalso;rw [List.length_nil] at h;omega
  have hpq:=UN q om
  have hpl:=b9j (TY hfT om (n:=nq) om) (m:=2^q) om om
  rw [hgt,obs,show (wtK (u+1+ρ) (opW (u+1) ρ t)).word=kv (opW (u+1) ρ t) from rfl,aZ,Gs ht,hq,a8u q om,Yj (by rw [Hx];omega) (TY hfT om om) om,obs]
  rw [hq] at hpo
  rw [Nt hpo om (by rw [Oz];omega) (by rw [plM,List.length_map,Hx];omega) hpl,obs,opO,hq,Nat.add_sub_cancel]
end Go.AI.Fn
set_option linter.unusedVariables false
set_option linter.unusedSimpArgs false
namespace Go.AI.Fn
end Go.AI.Fn
set_option linter.unusedVariables false
set_option linter.unusedSimpArgs false
namespace Go.AI.Fn
structure BoO (o:aV):Prop where
 rn:o.Rounds.length≤6
 rr: ∀g∈o.Rounds,g.length≤3
 ro:o.Roots.length≤6
 rh: ∀x∈o.Roots,x.length≤32
 qn:o.Queries.length≤8
 qp: ∀q∈o.Queries,q.Pairs.length≤12
 qt: ∀q∈o.Queries,q.Paths.length≤6
 qq: ∀q∈o.Queries, ∀p∈q.Paths,p.length≤8∧ ∀x∈p,x.length≤32
structure OkO (o:aV) (v:Nat) (t:Setting):Prop where
 v1:1≤v∧v≤6
 st:setB t=true
 rn:o.Rounds.length=v
 rr: ∀g∈o.Rounds,g.length=3∧gJ g
 ro:o.Roots.length=v-1
 rh: ∀x∈o.Roots,x.length=32
 la:okE o.Last
 no:0≤o.Nonce∧o.Nonce≤65535
 qn:(o.Queries.length:Int)=t.Queries
 qq: ∀q∈o.Queries,c3Z (v:Int) t q=true
variable {o:aV} {v:Nat} {t:Setting}
end Go.AI.Fn
set_option linter.unusedVariables false
set_option linter.unusedSimpArgs false
namespace Go.AI.Fn
variable {o:aV} {v ρ:Nat} {t:Setting} {root:List UInt8} {D:List K} {q:cc}
end Go.AI.Fn
set_option linter.unusedVariables false
set_option linter.unusedSimpArgs false
namespace Go.AI.Fn
end Go.AI.Fn
set_option linter.unusedVariables false
set_option linter.unusedSimpArgs false
namespace Go.AI.Fn
variable {o:aV} {v ρ nq bits:Nat} {t:Setting} {root:List UInt8} {D P:List K} {s:Source} {k:Int}
end Go.AI.Fn
set_option linter.unusedVariables false
set_option linter.unusedSimpArgs false
namespace Go.AI.Fn
variable {o:aV} {v ρ nq bits:Nat} {t:Setting} {root:List UInt8} {P:List K} {cl:K} {s:Source} {k:Int}
end Go.AI.Fn
set_option linter.unusedVariables false
set_option linter.unusedSimpArgs false
namespace Go.AI.Fn
variable {o:aV} {v ρ nq bits:Nat} {t:Setting} {root:List UInt8} {P:List K} {cl:K} {s:Source} {k:Int}
end Go.AI.Fn
set_option linter.unusedVariables false
set_option linter.unusedSimpArgs false
namespace Go.AI.Fn
variable {o:aV} {v ρ nq bits:Nat} {t:Setting} {root:List UInt8} {P:List K} {cl:K} {s:Source} {k:Int}
end Go.AI.Fn
set_option linter.unusedVariables false
set_option linter.unusedSimpArgs false
namespace Go.AI.Fn
end Go.AI.Fn
set_option linter.unusedVariables false
set_option linter.unusedSimpArgs false
namespace Go.AI.Fn
end Go.AI.Fn
set_option linter.unusedVariables false
set_option linter.unusedSimpArgs false
namespace Go.AI.Fn
theorem a6S {R T:List K} {β:K} {l t t2 t3 c4 c5 c6:List ae} {c c2 c3 c7 c8 c11 c12 RR CC:Int} (hm:OkM l RR CC) (hR:(R.length:Int)=RR) (hT:(T.length:Int)=CC):
 Loop (lL (kv R) t t2 t3 l ((l.length:Nat):Int) c c2 c3 c4 c5 c6 c7 c8 β.1.A β.1.B c11 c12) (kv T,0)=some (kv (l.foldl (btS β R) T),(l.length:Int),false):=
 Ov (t:=t) (t2:=t2) (t3:=t3) (t4:=0) (c:=c) (c2:=c2) (c3:=c3) (c4:=c4) (c5:=c5) (c6:=c6) (c9:=0) (c10:=0) (c11:=0) (c12:=0) hm hR hT
theorem a8H {R T:List K} {β:K} {l t t2 t3 c4 c5 c6:List ae} {c c2 c3 c7 c8 c9 c10 RR CC:Int} (hm:OkM l RR CC) (hR:(R.length:Int)=RR) (hT:(T.length:Int)=CC):
 Loop (lN (kv R) t t2 t3 l ((l.length:Nat):Int) c c2 c3 c4 c5 c6 c7 c8 c9 c10 β.1.A β.1.B) (kv T,0)=some (kv (l.foldl (btS β R) T),(l.length:Int),false):=
 Ov (t:=t) (t2:=t2) (t3:=t3) (t4:=0) (c:=c) (c2:=c2) (c3:=c3) (c4:=c4) (c5:=c5) (c6:=c6) (c9:=0) (c10:=0) (c11:=0) (c12:=0) hm hR hT
def btM (s:aL) (R:List K) (x y z:K):List K:=s.C.foldl (btS z R) (s.B.foldl (btS y R) (s.A.foldl (btS x R) (List.replicate (2^s.Cols.toNat) 0)))
theorem b2M (s:aL) (R:List K) (x y z:K):(btM s R x y z).length=2^s.Cols.toNat:=by rw [btM,wP,wP,wP,List.length_replicate]
theorem b2j (n:Nat):kv (List.replicate n 0)=List.replicate n e0:=by rw [kv,List.map_replicate];rfl
theorem a8T {s:aL} (h:kY s=true):OkM s.A ((2^s.Rows.toNat:Nat):Int) ((2^s.Cols.toNat:Nat):Int)∧OkM s.B ((2^s.Rows.toNat:Nat):Int) ((2^s.Cols.toNat:Nat):Int)∧OkM s.C ((2^s.Rows.toNat:Nat):Int) ((2^s.Cols.toNat:Nat):Int)∧
 vm s.A ((2^s.Rows.toNat:Nat):Int) ((2^s.Cols.toNat:Nat):Int)=true∧vm s.B ((2^s.Rows.toNat:Nat):Int) ((2^s.Cols.toNat:Nat):Int)=true∧vm s.C ((2^s.Rows.toNat:Nat):Int) ((2^s.Cols.toNat:Nat):Int)=true:=by
 obtain ⟨hR,hC,_⟩:=j8 h
 have e1:s.Rows=((s.Rows.toNat:Nat):Int):=by omega
 have e2:s.Cols=((s.Cols.toNat:Nat):Int):=by omega
 have f1:aP .i64 1 s.Rows=((2^s.Rows.toNat:Nat):Int):=by conv=>lhs;rw [e1];rw [Gc om]
 have f2:aP .i64 1 s.Cols=((2^s.Cols.toNat:Nat):Int):=by conv=>lhs;rw [e2];rw [Gc om]
 unfold kY at h
 simp only [Bool.and_eq_true,decide_eq_true_eq,f1,f2] at h
 obtain ⟨_,_,_,mA,mB,mC⟩:=h
 exact ⟨Dw mA,Dw mB,Dw mC,mA,mB,mC⟩
theorem Lh {s:aL} (h:kY s=true) {p R:List K} {x y z:K} (hp:p.length=s.Rows.toNat) (hR:eqT (kv p)=kv R):pi s (kv p) (x.1,y.1,z.1)=some (kv (btM s R x y z)):=by
 obtain ⟨hr,hc,_⟩:=j8 h
 obtain ⟨mA,mB,mC,_⟩:=a8T h
 have hpw:=qF s.Cols.toNat om
 have hRl:(R.length:Int)=((2^s.Rows.toNat:Nat):Int):=by
  have:=U0 (kv p)
  rw [hR,aZ,aZ,hp] at this;omega
 have e2:s.Cols=((s.Cols.toNat:Nat):Int):=by omega
 have f2:aP .i64 1 s.Cols=((2^s.Cols.toNat:Nat):Int):=by conv=>lhs;rw [e2];rw [Gc om]
 unfold pi ci
 rw [brd om,f2,Xi om om om,uk (QX p) (by rw [aZ];omega),obs,hR,obs]
 dsimp only
 rw [Int.toNat_natCast,show Ext.mk 0 0=e0 from rfl, ←b2j,Ov mA hRl (by rw [List.length_replicate]),obs]
 dsimp only
 rw [a6S mB hRl (by rw [wP,List.length_replicate]),obs]
 dsimp only
 rw [a8H mC hRl (by rw [wP,wP,List.length_replicate]),obs];rfl
def Q1 (l:List Int):List UInt8:=l.flatMap nO
theorem Y6 (l:List Int):(Q1 l).length=4*l.length:=by
 induction l with
 |nil=>rfl
 |cons x l ih=>simp only [Q1,List.flatMap_cons,List.length_append,eP,List.length_cons] at*;omega
theorem a58 (l:List Int) (x:Int):Q1 (l++[x])=Q1 l++nO x:=by simp [Q1]
def setT (t:Setting):List UInt8:=[UInt8.ofInt t.Rate,UInt8.ofInt t.Queries,UInt8.ofInt t.Grind]
def Og (s:aL) (t:Setting) (p:List Int):List UInt8:=H (W8 s)++setT t++Q1 p
theorem b4E {l:List (List UInt8)} {l3 L:List UInt8} {p:List Int} {c c2 c3 c7 c8 c9:Int} {c4 c5 c6:List ae} (hp:p.length≤5000) (hL:L.length≤1000):Loop (ff l l3 p ((p.length:Nat):Int) c c2 c3 c4 c5 c6 c7 c8 c9) (L,0)=some (L++Q1 p,(p.length:Int),false):=by
 have key:=aH (step:=ff l l3 p ((p.length:Nat):Int) c c2 c3 c4 c5 c6 c7 c8 c9) (fun j=>(L++Q1 (p.take j),(j:Int))) p.length (e:=(L++Q1 p,(p.length:Int),false)) (fun j hj=> ?_) ?_
 ·simpa [Q1] using key
 ·simp only [ff]
  have hn:=Y6 (p.take j)
  rw [List.length_take] at hn
  rw [brd om,bN hj,obs,nI (by simp only [List.length_append];omega),obs,aa _ om om,bt hj,a58,List.append_assoc];rfl
 ·simp only [ff]
  rw [brn om,decide_eq_false om,List.take_length]
theorem a0O (s:aL) (t:Setting) (p:List Int):(Og s t p).length=35+4*p.length:=by
 simp only [Og,List.length_append,H0,setT,List.length_cons,List.length_nil,Y6]
end Go.AI.Fn
set_option linter.unusedVariables false
set_option linter.unusedSimpArgs false
namespace Go.AI.Fn
noncomputable def stC (s:aL) (t:Setting) (p:List Int) (src:Source):Int:=
 if p.length>4096 then 2 else if kY s=false then 1 else if setB t=false then 1 else if p.all vg=false then 1 else if a2R src=false then 1
 else if (p.length:Int)≠s.Publics then 17 else if 999800<mx src.At src.Count then 6 else 0
theorem Mq {s:aL} {t:Setting} {p:List Int} {src:Source} (hA:s.A.length≤1048576) (hB:s.B.length≤1048576) (hC:s.C.length≤1048576) (hp:p.length≤1048576) (hs:src.Script.length≤1048576):
 sn s t p src=some (stC s t p src):=by
 unfold sn stC
 by_cases c1:p.length>4096
 ·rw [brd om,if_pos c1]
 rw [brn om,if_neg c1,xT om om om,obs]
 cases h2:kY s
 ·rfl
 rw [Bool.not_true,aK,if_neg (by simp),CU,obs]
 cases h3:setB t
 ·rfl
 rw [Bool.not_true,aK,if_neg (by simp),qH om,obs]
 cases h4:p.all vg
 ·rfl
 rw [Bool.not_true,aK,if_neg (by simp),Ez om,obs]
 cases h5:a2R src
 ·rfl
 have ho:=Nm.1 h5
 have h0:0≤mx src.At src.Count:=by have:=ho.4;have:=ho.6;unfold mx;split<;>assumption
 have h9:=b0g ho.5 ho.7
 rw [Bool.not_true,aK,if_neg (by simp)]
 by_cases c6:(p.length:Int)=s.Publics
 ·rw [y8 c6,if_neg (by simp [c6])]
  unfold ib
  rw [obs,aa _ om om]
  by_cases c7:999800<mx src.At src.Count
  ·rw [brd om,if_pos c7]
  ·rw [brn om,if_neg c7]
 ·rw [brb c6,if_pos c6]
structure a3v (s:aL) (t:Setting) (p:List Int) (src:Source):Prop where
 sy:kY s=true
 se:setB t=true
 pl:p.length≤4096
 pf:eU p
 pe:(p.length:Int)=s.Publics
 fw:Few src 999800
theorem Ot {s:aL} {t:Setting} {p:List Int} {src:Source} (h:a3v s t p src):sH s t p=some (Og s t p):=by
 obtain ⟨_,_,_,hA,hB,hC⟩:=j8 h.sy
 have hle:=h.pl
 have hl:=b0Y s
 have hH:=H0 (W8 s)
 unfold sH
 rw [Lg hA hB hC,obs,sI (by simpa using by omega) (by simp),obs,show [W8 s].flatten=W8 s by simp,aA om,aA (by simp only [List.length_append,List.length_cons,List.length_nil];omega),
  b4E om (by simp only [List.length_append,List.length_cons,List.length_nil];omega),obs];rfl
theorem c39 {L:List Ext} (h:gJ L) (hl:L.length=3): ∃a b c:K,L=kv [a,b,c]:=by
 obtain ⟨l,rfl⟩:=b6n h
 rw [aZ] at hl
 match l,hl with
 |[a,b,c],_=>exact ⟨a,b,c,rfl⟩
noncomputable def vx1 (s:aL) (t:Setting) (p:List Int) (root:List UInt8) (src:Source):Source:=tkM (tkM src (Og s t p)) root
noncomputable def vr (x:Source) (j:Nat):K:=toK ((drL x 3).getD j e0)
theorem b7D {L:List Ext} (h:gJ L):kv (L.map toK)=L:=by
 rw [kv,List.map_map]
 conv=>rhs;rw [←List.map_id L]
 exact List.map_congr_left fun x hx=>Dx (h x hx)
theorem c3G {x:Source} {k:Int} (h:Few x k) (hk:k≤999890):drL x 3=kv [vr x 0,vr x 1,vr x 2]:=by
 have ho:=TY h hk (n:=3) om
 obtain ⟨a,b,c,e⟩:=c39 ho (Hx x 3)
 rw [vr,vr,vr,e]
 show [a.1,b.1,c.1]=[(toK a.1).1,(toK b.1).1,(toK c.1).1]
 rw [Dx a.2,Dx b.2,Dx c.2]
end Go.AI.Fn
set_option linter.unusedVariables false
set_option linter.unusedSimpArgs false
namespace Go.AI.Fn
structure c49 (s:aL) (t:Setting) (root:List UInt8) (G W:List (List K)) (o:aV):Prop where
 rt:root.length=32
 gl:G.length=s.Rows.toNat
 g4: ∀g∈G,g.length=4
 wl:W.length=s.Cols.toNat
 w3: ∀g∈W,g.length=3
 op:OkO o (s.Cols.toNat-1) t
variable {s:aL} {t:Setting} {p:List Int} {src:Source} {root:List UInt8} {G W:List (List K)} {va vb vc vw:K} {o:aV}
end Go.AI.Fn
set_option linter.unusedVariables false
set_option linter.unusedSimpArgs false
namespace Go.AI.Fn
def pJ (op:Int):Int:=if 4≤op∧op≤7 then 2 else if op=8 then 1 else 0
theorem JT (op:Int):dM op=some (pJ op):=by
 unfold dM pJ
 rw [a6X,obs]
 by_cases h1:4≤op∧op≤7
 ·rw [decide_eq_true h1,if_pos h1];rfl
 ·rw [decide_eq_false h1,if_neg h1,aK]
  by_cases h2:op=8
  ·rw [bre h2,if_pos h2]
  ·rw [bc h2,if_neg h2]
def bw (l:List ah) (op:Int):Nat:=l.countP fun g=>g.Op==op
theorem fM (l:List ah) (x:ah) (op:Int):bw (l++[x]) op=bw l op+(if (x.Op==op)=true then 1 else 0):=by
 simp only [bw,List.countP_append,List.countP_singleton]
theorem gB (l:List ah) (op:Int):bw l op≤l.length:=List.countP_le_length
theorem b0E (b:Bool):I6 b=some (if b=true then 1 else 0):=by cases b<;>rfl
theorem qE {c:Circuit} {op:Int} (h:c.Gates.length≤1048576):ep c op=some (bw c.Gates op:Int):=by
 unfold ep
 have key:=aH (step:=iS op c.Gates) (fun j=>((bw (c.Gates.take j) op:Int),(j:Int))) c.Gates.length (e:=((bw c.Gates op:Int),(c.Gates.length:Int),false)) (fun j hj=> ?_) ?_
 ·rw [show ((0:Int),(0:Int))=((bw (c.Gates.take 0) op:Int),((0:Nat):Int)) from rfl,key];rfl
 ·have hle:=gB (c.Gates.take j) op
  rw [List.length_take] at hle
  simp only [iS]
  rw [brd om,bN hj,obs,b0E,obs,bt hj,fM]
  cases hb:(c.Gates[j].Op==op)
  ·rw [if_neg (by simp),if_neg (by simp),aa _ om om,aa _ om om];simp
  ·rw [if_pos rfl,if_pos rfl,aa _ om om,aa _ om om];simp
 ·simp only [iS]
  rw [brn om,decide_eq_false om,List.take_length]
def i4 (g:ah) (k:Int):Bool:=
 decide (1≤g.Op∧g.Op≤8)&&(br (decide (pJ g.Op>0)) (decide (0≤g.A∧g.A≤k-1)) (g.A==0)&&(br (decide (pJ g.Op>1)) (decide (0≤g.B∧g.B≤k-1)) (g.B==0)&&br (g.Op==3) (vg g.K) (g.K==0)))
theorem R9 {g:ah} {k:Int} (h0:0≤k) (h1:k≤1048576):yy g k=some (i4 g k):=by
 have hu:pJ g.Op=0∨pJ g.Op=1∨pJ g.Op=2:=by
  unfold pJ
  split
  ·simp
  ·split<;>simp
 unfold yy i4
 simp only [a6X,GK,JT,obs,bne]
 rw [aa (k-1) om om]
 generalize pJ g.Op=u at hu ⊢
 generalize decide (0≤g.A∧g.A≤k-1)=a
 generalize decide (0≤g.B∧g.B≤k-1)=b
 generalize decide (1≤g.Op∧g.Op≤8)=o
 generalize (g.A==0)=za
 generalize (g.B==0)=zb
 generalize (g.Op==3)=o3
 generalize (g.K==0)=zk
 rcases hu with rfl|rfl|rfl<;>cases o<;>cases a<;>cases b<;>cases za<;>cases zb<;>cases o3<;>rfl
def AO (l:List ah):Bool:=decide (1≤l.length∧l.length≤15)&&((List.range l.length).all (fun k=>((l[k]?.map fun g=>i4 g (k:Int)).getD false))&&decide ((bw l 2:Int)≤7))
structure OkC (l:List ah):Prop where
 n1:1≤l.length
 n2:l.length≤15
 g: ∀(k:Nat) (h:k<l.length),i4 l[k] (k:Int)=true
 p:bw l 2≤7
theorem a7Z {l:List ah} (h:AO l=true):OkC l:=by
 simp only [AO,Bool.and_eq_true,decide_eq_true_eq,List.all_eq_true,List.mem_range] at h
 obtain ⟨⟨h1,h2⟩,h3,h4⟩:=h
 exact ⟨h1,h2,fun k hk=>by simpa [hk] using h3 k hk,by omega⟩
theorem O7 {c:Circuit} (h:c.Gates.length≤1048576):sj c=some (AO c.Gates):=by
 unfold sj AO
 rw [a6X,obs]
 by_cases h1:1≤c.Gates.length∧c.Gates.length≤15
 ·rw [decide_eq_true om,decide_eq_true h1,Bool.not_true,aK,Bool.true_and]
  have key:=sg (step:=dm c.Gates) (fun k=>(k:Int)) c.Gates.length (fun k=>((c.Gates[k]?.map fun g=>i4 g (k:Int)).getD false)) (fun k=> .inl ()) (e:= .inr ((c.Gates.length:Int),false)) (fun k hk hp=>by
   have hb:i4 c.Gates[k] (k:Int)=true:=by simpa [hk] using hp
   simp only [dm]
   rw [brd om,bN hk,obs,R9 om om,obs,hb,Bool.not_true,aK,aa _ om om];rfl)
   (fun k hk hp=>by
    have hb:i4 c.Gates[k] (k:Int)=false:=by simpa [hk] using hp
    simp only [dm]
    rw [brd om,bN hk,obs,R9 om om,obs,hb,Bool.not_false,bM])
   (by simp only [dm];rw [brn om,decide_eq_false om])
  rcases key with ⟨h2,h3⟩|⟨k,hk,h2,_,h3⟩
  ·have e:Loop (dm c.Gates) 0=some (.inr ((c.Gates.length:Int),false)):=h3
   have ha:(List.range c.Gates.length).all (fun k=>((c.Gates[k]?.map fun g=>i4 g (k:Int)).getD false))=true:=List.all_eq_true.2 fun k hk=>h2 k (List.mem_range.1 hk)
   rw [e,ha,obs,wG,qE h,obs,Bool.true_and]
  ·have e:Loop (dm c.Gates) 0=some (.inl ()):=h3
   have ha:(List.range c.Gates.length).all (fun k=>((c.Gates[k]?.map fun g=>i4 g (k:Int)).getD false))=false:=List.all_eq_false.2 ⟨k,List.mem_range.2 hk,by rw [h2];simp⟩
   rw [e,ha,obs,ue,Bool.false_and]
 ·rw [decide_eq_false om,decide_eq_false h1,Bool.not_false,bM,Bool.false_and]
def gvM (P I out:List Int) (p i:Nat) (g:ah):Int:=
 if g.Op=1 then I.getD i 0 else if g.Op=2 then P.getD p 0 else if g.Op=3 then g.K else if g.Op=4 then aF (out.getD g.A.toNat 0) (out.getD g.B.toNat 0)
 else if g.Op=5 then sF (out.getD g.A.toNat 0) (out.getD g.B.toNat 0) else if g.Op=6 then mF (out.getD g.A.toNat 0) (out.getD g.B.toNat 0) else out.getD g.A.toNat 0
def rnM (P I:List Int) (l:List ah):Nat→List Int
 |0=>[]
 |j+1=>rnM P I l j++[gvM P I (rnM P I l j) (bw (l.take j) 2) (bw (l.take j) 1) (l.getD j ⟨0,0,0,0⟩)]
theorem xl (P I:List Int) (l:List ah): ∀j,(rnM P I l j).length=j
 |0=>rfl
 |j+1=>by rw [rnM,List.length_append,xl P I l j];rfl
theorem zy {g:ah} {k:Int} (h:i4 g k=true):(1≤g.Op∧g.Op≤8)∧(4≤g.Op→0≤g.A∧g.A≤k-1)∧(4≤g.Op→g.Op≤7→0≤g.B∧g.B≤k-1)∧(g.Op=3→okF g.K):=by
 simp only [i4,Bool.and_eq_true,decide_eq_true_eq] at h
 obtain ⟨h1,h2,h3,h4⟩:=h
 refine ⟨h1,fun h=> ?_,fun h g7=> ?_,fun h=> ?_⟩
 ·rw [brd (by
   unfold pJ
   split
   ·omega
   ·split<;>omega)] at h2
  exact of_decide_eq_true h2
 ·rw [brd (by unfold pJ;rw [if_pos ⟨h,g7⟩];omega)] at h3
  exact of_decide_eq_true h3
 ·rw [bre h] at h4
  exact CK.1 h4
theorem jk {l:List ah} {j:Nat} {op:Int} (hj:j<l.length) (h:l[j].Op=op):bw (l.take j) op<bw l op:=by
 have h1:bw (l.take (j+1)) op≤bw l op:=List.Sublist.countP_le (List.take_sublist _ _)
 rw [bt hj,fM,if_pos (by simp [h])] at h1
 omega
theorem oR {l:List Int} {k:Nat} (h:k<l.length):atL l (k:Int)=some (l.getD k 0):=by rw [bN h];simp [h]
theorem gw {l:List Int} {k:Nat} (h:k<l.length):l[k]? =some (l.getD k 0):=by simp [h]
theorem fb {l:List Int} (h:eU l) {k:Nat} (hk:k<l.length):okF (l.getD k 0):=by
 have:l.getD k 0=l[k]:=by simp [hk]
 rw [this];exact h _ (List.getElem_mem hk)
theorem b9Z {P I o:List Int} {p i:Nat} {g:ah} (hP:eU P) (hI:eU I) (ho:eU o) (hg:i4 g (o.length:Int)=true) (hp:g.Op=2→p<P.length) (hi:g.Op=1→i<I.length):okF (gvM P I o p i g):=by
 obtain ⟨h1,h2,h3,h4⟩:=zy hg
 unfold gvM
 split
 ·rename_i h;exact fb hI (hi h)
 split
 ·rename_i h;exact fb hP (hp h)
 split
 ·rename_i h;exact h4 h
 have a:=h2 om
 split
 ·have b:=h3 om om;exact a28 _ _
 split
 ·have b:=h3 om om;exact c3n _ _
 split
 ·exact wK _ _
 ·exact fb ho om
theorem SI {P I:List Int} {l:List ah} (ok:OkC l) (hP:eU P) (hI:eU I) (lP:P.length=bw l 2) (lI:I.length=bw l 1): ∀j,j≤l.length→eU (rnM P I l j)
 |0,_=>fun x hx=>by cases hx
 |j+1,h=>by
  have ih:=SI ok hP hI lP lI j om
  have hj:j<l.length:=by omega
  have hd:l.getD j ⟨0,0,0,0⟩=l[j]:=by simp [hj]
  intro x hx
  rw [rnM,hd,List.mem_append,List.mem_singleton] at hx
  rcases hx with hx|rfl
  ·exact ih x hx
  ·exact b9Z hP hI ih (by rw [xl];exact ok.g j hj) (fun h=>by rw [lP];exact jk hj h) (fun h=>by rw [lI];exact jk hj h)
theorem XN {c:Circuit} {P I:List Int} (ok:OkC c.Gates) (hP:eU P) (hI:eU I) (lP:P.length=bw c.Gates 2) (lI:I.length=bw c.Gates 1):BT c P I=some (rnM P I c.Gates c.Gates.length):=by
 have hn:=ok.n2
 unfold BT
 have key:=aH (step:=lF P I c.Gates) (fun j=>(rnM P I c.Gates j,(bw (c.Gates.take j) 2:Int),(bw (c.Gates.take j) 1:Int),(j:Int))) c.Gates.length (e:=(rnM P I c.Gates c.Gates.length,(bw c.Gates 2:Int),(bw c.Gates 1:Int),(c.Gates.length:Int),false)) (fun j hj=> ?_) ?_
 ·have:((rnM P I c.Gates 0,(bw (c.Gates.take 0) 2:Int),(bw (c.Gates.take 0) 1:Int),((0:Nat):Int)):List Int×Int×Int×Int)=([],0,0,0):=rfl
  rw [←this,key];rfl
 ·have hd:c.Gates.getD j ⟨0,0,0,0⟩=c.Gates[j]:=by simp [hj]
  obtain ⟨g1,g2,g3,g4⟩:=zy (ok.g j hj)
  have l2:=gB (c.Gates.take j) 2
  have l1:=gB (c.Gates.take j) 1
  rw [List.length_take] at l1 l2
  have hro:=SI ok hP hI lP lI j om
  have hrl:=xl P I c.Gates j
  have t2:=jk (op:=2) hj
  have t1:=jk (op:=1) hj
  simp only [lF]
  rw [brd om,bN hj,obs,bt hj,fM,fM,rnM,hd]
  generalize c.Gates[j]=g at*
  generalize rnM P I c.Gates j=o at*
  have hfit: ∀v:Int,(o++[v]).length*8≤1099511627776:=fun v=>by rw [List.length_append,hrl];simp;omega
  have hop:g.Op=1∨g.Op=2∨g.Op=3∨g.Op=4∨g.Op=5∨g.Op=6∨7≤g.Op:=by omega
  rcases hop with h|h|h|h|h|h|h
  ·rw [bre h,oR (by have:=t1 h;omega),obs,aA (hfit _),aa _ om om,aa _ om om]
   simp [gvM,h]
  ·rw [bc om,bre h,oR (by have:=t2 h;omega),obs,aA (hfit _),aa _ om om,aa _ om om]
   simp [gvM,h]
  ·rw [bc om,bc om,bre h,aA (hfit _),aa _ om om]
   simp [gvM,h]
  ·have a:=g2 om
   have b:=g3 om om
   rw [bc om,bc om,bc om,bre h,brd a.1,brd om,gw om,obs,brd b.1,brd om,gw om,obs,a6f (fb hro om) (fb hro om),obs,aA (hfit _),aa _ om om]
   simp [gvM,h]
  ·have a:=g2 om
   have b:=g3 om om
   rw [bc om,bc om,bc om,bc om,bre h,brd a.1,brd om,gw om,obs,brd b.1,brd om,gw om,obs,a78 (fb hro om) (fb hro om),obs,aA (hfit _),aa _ om om]
   simp [gvM,h]
  ·have a:=g2 om
   have b:=g3 om om
   rw [bc om,bc om,bc om,bc om,bc om,bre h,brd a.1,brd om,gw om,obs,brd b.1,brd om,gw om,obs,a6n (fb hro om) (fb hro om),obs,aA (hfit _),aa _ om om]
   simp [gvM,h]
  ·have a:=g2 om
   rw [bc om,bc om,bc om,bc om,bc om,bc om,brd a.1,brd om,gw om,obs,aA (hfit _),aa _ om om]
   have e1:(g.Op==1)=false:=by simp;omega
   have e2:(g.Op==2)=false:=by simp;omega
   rw [e1,e2,gvM,if_neg om,if_neg om,if_neg om,if_neg om,if_neg om,if_neg om]
   simp
 ·simp only [lF]
  rw [brn om,decide_eq_false om,List.take_length]
def ij (v:List Int) (g:ah):Bool:=br (g.Op==7) (v.getD g.A.toNat 0==v.getD g.B.toNat 0) true&&br (g.Op==8) (decide (v.getD g.A.toNat 0≤1)) true
theorem T2 {l:List Int} {i:Int} (h0:0≤i) (h1:i.toNat<l.length):atL l i=some (l.getD i.toNat 0):=by
 have:i=((i.toNat:Nat):Int):=by omega
 conv=>lhs;rw [this]
 exact oR h1
theorem TN {c:Circuit} {v:List Int} (ok:OkC c.Gates) (hv:v.length=c.Gates.length):ye c v=some (c.Gates.all (ij v)):=by
 have hn:=ok.n2
 unfold ye
 have stp: ∀k (hk:k<c.Gates.length),ez v c.Gates (k:Int)=if ij v c.Gates[k]=true then some (.inl ((k+1:Nat):Int)) else some (.inr (.inl (c.Gates[k].Op,c.Gates[k].A,c.Gates[k].B,c.Gates[k].K))):=fun k hk=>by
  obtain ⟨g1,g2,g3,g4⟩:=zy (ok.g k hk)
  simp only [ez]
  rw [brd om,bN hk,obs]
  generalize c.Gates[k]=g at*
  have e:IntKind.wrap .i64 ((k:Int)+1)=((k+1:Nat):Int):=by rw [aa _ om om];omega
  by_cases h7:g.Op=7
  ·have a:=g2 om
   have b:=g3 om om
   rw [bre h7,T2 a.1 om,obs,T2 b.1 om,obs,bc (by omega:g.Op≠8),ij,bre h7,bc (by omega:g.Op≠8),Bool.and_true,e]
   by_cases h:v.getD g.A.toNat 0=v.getD g.B.toNat 0
   ·rw [y8 h,if_pos (by simpa using h)]
   ·rw [brb h,if_neg (by simpa using h)]
  ·rw [bc h7,ij,bc h7,Bool.true_and]
   by_cases h8:g.Op=8
   ·have a:=g2 om
    rw [bre h8,bre h8,T2 a.1 om,obs,e]
    by_cases h:v.getD g.A.toNat 0>1
    ·rw [brd h,decide_eq_false om,if_neg (by simp)]
    ·rw [brn h,decide_eq_true om,if_pos rfl]
   ·rw [bc h8,bc h8,if_pos rfl,e]
 have key:=sg (step:=ez v c.Gates) (fun k=>(k:Int)) c.Gates.length (fun k=>((c.Gates[k]?.map (ij v)).getD false)) (fun k=> .inl ((c.Gates.getD k ⟨0,0,0,0⟩).Op,(c.Gates.getD k ⟨0,0,0,0⟩).A,(c.Gates.getD k ⟨0,0,0,0⟩).B,(c.Gates.getD k ⟨0,0,0,0⟩).K)) (e:= .inr ((c.Gates.length:Int),false)) (fun k hk hp=>by
  have hb:ij v c.Gates[k]=true:=by simpa [hk] using hp
  rw [stp k hk,if_pos hb])
  (fun k hk hp=>by
   have hb:ij v c.Gates[k]=false:=by simpa [hk] using hp
   have hd:c.Gates.getD k ⟨0,0,0,0⟩=c.Gates[k]:=by simp [hk]
   rw [stp k hk,if_neg (by rw [hb];simp),hd])
  (by simp only [ez];rw [brn om,decide_eq_false om])
 rcases key with ⟨h2,h3⟩|⟨k,hk,h2,_,h3⟩
 ·have e:Loop (ez v c.Gates) 0=some (.inr ((c.Gates.length:Int),false)):=h3
  have ha:c.Gates.all (ij v)=true:=List.all_eq_true.2 fun x hx=>by
   obtain ⟨k,hk,rfl⟩:=List.getElem_of_mem hx
   simpa [hk] using h2 k hk
  rw [e,ha,obs,wG]
 ·have ha:c.Gates.all (ij v)=false:=List.all_eq_false.2 ⟨c.Gates[k],List.getElem_mem hk,by simpa [hk] using h2⟩
  have h4:Loop (ez v c.Gates) 0=_:=h3
  rw [h4,ha,obs,ue]
def prM (v:List Int) (l:List ah):Nat→List Int
 |0=>[]
 |j+1=>prM v l j++(if (l.getD j ⟨0,0,0,0⟩).Op=2 then [] else [v.getD j 0])
theorem TE (v:List Int) (l:List ah): ∀j,j≤l.length→(prM v l j).length+bw (l.take j) 2=j
 |0,_=>rfl
 |j+1,h=>by
  have hj:j<l.length:=by omega
  have ih:=TE v l j om
  have hd:l.getD j ⟨0,0,0,0⟩=l[j]:=by simp [hj]
  rw [prM,bt hj,fM,List.length_append,hd]
  by_cases h2:l[j].Op=2
  ·rw [if_pos h2,if_pos (by simp [h2])];simp;omega
  ·rw [if_neg h2,if_neg (by simp [h2])];simp;omega
theorem b0m {v:List Int} {l:List ah} (hv:eU v) (hl:v.length=l.length): ∀j,j≤l.length→eU (prM v l j)
 |0,_=>fun x hx=>by cases hx
 |j+1,h=>by
  have ih:=b0m hv hl j om
  intro x hx
  rw [prM,List.mem_append] at hx
  rcases hx with hx|hx
  ·exact ih x hx
  ·split at hx
   ·cases hx
   ·rw [List.mem_singleton] at hx;subst hx;exact fb hv om
end Go.AI.Fn
set_option linter.unusedVariables false
set_option linter.unusedSimpArgs false
namespace Go.AI.Fn
def lgM (m:Int):Nat:=if m≤2 then 2 else if m≤4 then 3 else if m≤8 then 4 else 5
def lgC (l:List ah):Nat:=lgM (mx ((bw l 2:Int)+1) ((l.length:Int)-(bw l 2:Int)))
theorem b8i (m:Int):2≤lgM m∧lgM m≤5:=by
 unfold lgM
 split
 ·omega
 ·split
  ·omega
  ·split<;>omega
theorem b5B {m:Int} (h:m≤15):m≤((2^(lgM m-1):Nat):Int):=by
 unfold lgM
 split
 ·simpa
 ·split
  ·simpa
  ·split
   ·simpa
   ·simp;omega
def ZI (l:List ah) (j:Nat):Int:=if (l.getD j ⟨0,0,0,0⟩).Op=2 then (bw (l.take j) 2:Int)+1 else ((2^(lgC l-1):Nat):Int)+((j:Int)-(bw (l.take j) 2:Int))
def iO (l:List ah) (n:Nat):List Int:=(List.range n).map (ZI l)
theorem QN (l:List ah) (n:Nat):(iO l n).length=n:=by simp [iO]
theorem a0N (l:List ah) (n:Nat):iO l (n+1)=iO l n++[ZI l n]:=by simp [iO,List.range_succ]
end Go.AI.Fn
set_option linter.unusedVariables false
set_option linter.unusedSimpArgs false
namespace Go.AI.Fn
def enP (row col:Int) (e:ae):Bool:=decide (e.Row=row)&&decide (e.Col>col)
def enR (row col v:Int):List ae→List ae
 |[]=>[⟨row,col,v⟩]
 |e::R=>if enP row col e=true then e::enR row col v R
  else if e.Row=row∧e.Col=col then (if aF e.Value v=0 then R else ⟨row,col,aF e.Value v⟩::R)
  else ⟨row,col,v⟩::e::R
def enM (L:List ae) (row col v:Int):List ae:=(enR row col v L.reverse).reverse
theorem a2z {row col v:Int} {R:List ae}: ∀{T:List ae},(∀e∈T,enP row col e=true)→enR row col v (T++R)=T++enR row col v R
 |[],_=>rfl
 |e::T,h=>by
  rw [List.cons_append,enR,if_pos (h e (by simp)),a2z fun x hx=>h x (by simp [hx])];rfl
theorem a7N (row col:Int) (L:List ae): ∃A T,L=A++T∧(∀e∈T,enP row col e=true)∧(A=[]∨ ∃B e,A=B++[e]∧enP row col e=false):=by
 refine ⟨(L.reverse.dropWhile (enP row col)).reverse,(L.reverse.takeWhile (enP row col)).reverse, ?_, ?_, ?_⟩
 ·rw [←List.reverse_append,List.takeWhile_append_dropWhile,List.reverse_reverse]
 ·intro e he
  rw [List.mem_reverse] at he
  have: ∀(l:List ae), ∀e∈l.takeWhile (enP row col),enP row col e=true:=by
   intro l
   induction l with
   |nil=>intro e he;cases he
   |cons x l ih=>
    intro e he
    rw [List.takeWhile_cons] at he
    split at he
    ·rename_i hx
     rcases List.mem_cons.1 he with rfl|he
     ·exact hx
     ·exact ih e he
    ·cases he
  exact this _ e he
 ·have: ∀(l:List ae),l.dropWhile (enP row col)=[]∨ ∃x r,l.dropWhile (enP row col)=x::r∧enP row col x=false:=by
   intro l
   induction l with
   |nil=>exact .inl rfl
   |cons x l ih=>
    rw [List.dropWhile_cons]
    split
    ·exact ih
    ·rename_i hx;exact .inr ⟨x,l,rfl,by simpa using hx⟩
  rcases this L.reverse with h|⟨x,r,h,hx⟩
  ·exact .inl (by rw [h];rfl)
  ·exact .inr ⟨r.reverse,x,by rw [h,List.reverse_cons],hx⟩
theorem Rh {row col v:Int} {A T:List ae} (h: ∀e∈T,enP row col e=true):enM (A++T) row col v=enM A row col v++T:=by
 unfold enM
 rw [List.reverse_append,a2z (fun e he=>h e (by simpa using he)),List.reverse_append,List.reverse_reverse]
end Go.AI.Fn
set_option linter.unusedVariables false
set_option linter.unusedSimpArgs false
namespace Go.AI.Fn
def muS (z T:List Int) (e:ae):List Int:=T.set e.Row.toNat (aF (T.getD e.Row.toNat 0) (mF e.Value (z.getD e.Col.toNat 0)))
theorem S9 (z:List Int): ∀(l:List ae) (T:List Int),(l.foldl (muS z) T).length=T.length
 |[],_=>rfl
 |e::l,T=>by rw [List.foldl_cons,S9 z l,muS,List.length_set]
theorem b7Q {z T:List Int} {e:ae} (h:eU T):eU (muS z T e):=by
 intro x hx
 unfold muS at hx
 rcases List.mem_or_eq_of_mem_set hx with hx|rfl
 ·exact h x hx
 ·exact a28 _ _
theorem Yp (z:List Int): ∀(l:List ae) (T:List Int),eU T→eU (l.foldl (muS z) T)
 |[],_,h=>h
 |e::l,T,h=>by rw [List.foldl_cons];exact Yp z l _ (b7Q h)
def muM (l:List ae) (n:Nat) (z:List Int):List Int:=l.foldl (muS z) (List.replicate (2^n) 0)
theorem wH (l:List ae) (n:Nat) (z:List Int):(muM l n z).length=2^n:=by rw [muM,S9,List.length_replicate]
theorem a0i (l:List ae) (n:Nat) (z:List Int):eU (muM l n z):=Yp z l _ (by
 intro x hx
 rw [List.eq_of_mem_replicate hx]
 exact ⟨by omega,by omega⟩)
end Go.AI.Fn
set_option linter.unusedVariables false
set_option linter.unusedSimpArgs false
namespace Go.AI.Fn
structure MkR (l:List ae) (row C:Int):Prop where
 ent: ∀x∈l,0≤x.Row∧x.Row≤row∧0≤x.Col∧x.Col≤C-1∧1≤x.Value∧x.Value≤2130706432
 srt:l.Pairwise ltE
theorem MkR.nil (row C:Int):MkR [] row C:=⟨fun x hx=>(by cases hx),List.Pairwise.nil⟩
theorem MkR.up {l:List ae} {row C r:Int} (h:MkR l row C) (hr:row≤r):MkR l r C:=
 ⟨fun x hx=>by obtain ⟨a,b,c⟩:=h.ent x hx;exact ⟨a,by omega,c⟩,h.srt⟩
theorem MkR.okF {l:List ae} {row C:Int} (h:MkR l row C): ∀e∈l,Fn.okF e.Value:=fun e he=>by
 obtain ⟨_,_,_,_,a,b⟩:=h.ent e he
 exact ⟨by omega,by omega⟩
theorem SD {A T:List ae} {n:ae} {row C:Int} (h:MkR (A++T) row C) (hn:n.Row=row) (h0:0≤row) (hc:0≤n.Col∧n.Col≤C-1) (hv:1≤n.Value∧n.Value≤2130706432) (hA: ∀a∈A,ltE a n) (hT: ∀b∈T,ltE n b):MkR (A++[n]++T) row C:=by
 obtain ⟨p1,p2,p3⟩:=List.pairwise_append.1 h.srt
 refine ⟨fun x hx=> ?_, ?_⟩
 ·simp only [List.mem_append,List.mem_singleton] at hx
  rcases hx with (hx|rfl)|hx
  ·exact h.ent x (by simp [hx])
  ·exact ⟨by omega,by omega,hc.1,hc.2,hv.1,hv.2⟩
  ·exact h.ent x (by simp [hx])
 ·rw [List.append_assoc,List.pairwise_append]
  refine ⟨p1, ?_,fun a ha b hb=> ?_⟩
  ·rw [List.singleton_append,List.pairwise_cons];exact ⟨hT,p2⟩
  ·rw [List.singleton_append,List.mem_cons] at hb
   rcases hb with rfl|hb
   ·exact hA a ha
   ·exact p3 a ha b hb
theorem MkR.sub {l l':List ae} {row C:Int} (h:MkR l row C) (hs:List.Sublist l' l):MkR l' row C:=
 ⟨fun x hx=>h.ent x (hs.subset hx),h.srt.sublist hs⟩
theorem ld {l:List ae} {row col v C:Int} (h:MkR l row C) (h0:0≤row) (hc:0≤col∧col≤C-1) (hv:1≤v∧v≤2130706432):MkR (enM l row col v) row C∧(enM l row col v).length≤l.length+1:=by
 obtain ⟨A,T,rfl,hT,hA⟩:=a7N row col l
 have hT': ∀b∈T,b.Row=row∧b.Col>col:=fun b hb=>by simpa [enP] using hT b hb
 rw [Rh hT]
 rcases hA with rfl|⟨B,x,rfl,hx⟩
 ·refine ⟨SD (A:=[]) (n:=⟨row,col,v⟩) h rfl h0 hc hv (fun a ha=>by cases ha) (fun b hb=> ?_),by simp [enM,enR]⟩
  have:=hT' b hb
  unfold ltE;dsimp only;omega
 ·have hm:enM (B++[x]) row col v=if x.Row=row∧x.Col=col then (if aF x.Value v=0 then B else B++[⟨row,col,aF x.Value v⟩]) else B++[x]++[⟨row,col,v⟩]:=by
   unfold enM
   rw [List.reverse_append,List.reverse_singleton,List.singleton_append,enR,if_neg (by rw [hx];simp)]
   split
   ·split<;>simp
   ·simp
  have hxe:=h.ent x (by simp)
  obtain ⟨p1,p2,p3⟩:=List.pairwise_append.1 h.srt
  obtain ⟨q1,q2,q3⟩:=List.pairwise_append.1 p1
  have hBx: ∀a∈B,ltE a x:=fun a ha=>q3 a ha x (by simp)
  rw [hm]
  split
  ·rename_i he
   have hs:MkR (B++T) row C:=h.sub (by simp)
   split
   ·exact ⟨hs,by simp;omega⟩
   ·rename_i hz
    have hk:=a28 x.Value v
    refine ⟨SD hs rfl h0 hc ⟨(by have:=hk.1;show 1≤aF x.Value v;omega),hk.2⟩ (fun a ha=> ?_) (fun b hb=> ?_),by simp⟩
    ·have:=hBx a ha
     unfold ltE at*;dsimp only;omega
    ·have:=hT' b hb
     unfold ltE;dsimp only;omega
  ·rename_i he
   have hxn:ltE x ⟨row,col,v⟩:=by
    simp only [enP,Bool.and_eq_false_iff,decide_eq_false_iff_not] at hx
    unfold ltE;dsimp only;omega
   refine ⟨SD h rfl h0 hc hv (fun a ha=> ?_) (fun b hb=> ?_),by simp;omega⟩
   ·rcases List.mem_append.1 ha with ha|ha
    ·exact Rq (hBx a ha) hxn
    ·rw [List.mem_singleton] at ha;subst ha;exact hxn
   ·have:=hT' b hb
    unfold ltE;dsimp only;omega
end Go.AI.Fn
set_option linter.unusedVariables false
set_option linter.unusedSimpArgs false
namespace Go.AI.Fn
def syM (a b c:Int) (g:ah) (r:Int) (A B C:List ae):Int×List ae×List ae×List ae:=
 if g.Op=1∨g.Op=2 then (r,A,B,C)
 else if g.Op=6 then (r+1,enM A r a 1,enM B r b 1,enM C r c 1)
 else if g.Op=4 then (r+1,enM (enM A r a 1) r b 1,enM B r 0 1,enM C r c 1)
 else if g.Op=5 then (r+1,enM (enM A r a 1) r b 2130706432,enM B r 0 1,enM C r c 1)
 else if g.Op=3 then (r+1,if g.K>0 then enM A r 0 g.K else A,enM B r 0 1,enM C r c 1)
 else if g.Op=7 then (r+1+1,enM (enM A r b 1) (r+1) a 1,enM (enM B r 0 1) (r+1) 0 1,enM (enM C r c 1) (r+1) c 1)
 else (r+1+1,enM (enM A r a 1) (r+1) a 1,enM (enM B r a 1) (r+1) 0 1,enM (enM C r c 1) (r+1) c 1)
end Go.AI.Fn
set_option linter.unusedVariables false
set_option linter.unusedSimpArgs false
namespace Go.AI.Fn
structure Mk3 (r:Int) (A B C:List ae) (CC:Int) (n:Nat):Prop where
 a:MkR A (r-1) CC
 b:MkR B (r-1) CC
 c:MkR C (r-1) CC
 la:A.length≤n
 lb:B.length≤n
 lc:C.length≤n
theorem Mk3.of {r' r:Int} {A B C:List ae} {CC:Int} {n m:Nat} (e:r'-1=r) (a:MkR A r CC) (b:MkR B r CC) (c:MkR C r CC) (la:A.length≤n) (lb:B.length≤n) (lc:C.length≤n) (h:n≤m):Mk3 r' A B C CC m:=by
 subst e;exact ⟨a,b,c,by omega,by omega,by omega⟩
theorem c2w {a b c r CC:Int} {g:ah} {A B C:List ae} {n:Nat} (hr:0≤r) (hC:1≤CC) (ha:4≤g.Op→0≤a∧a≤CC-1) (hb:4≤g.Op→g.Op≤7→0≤b∧b≤CC-1) (hc:0≤c∧c≤CC-1) (hk:g.Op=3→okF g.K)
 (hop:1≤g.Op∧g.Op≤8) (m:Mk3 r A B C CC n):
 Mk3 (syM a b c g r A B C).1 (syM a b c g r A B C).2.1 (syM a b c g r A B C).2.2.1 (syM a b c g r A B C).2.2.2 CC (n+2)∧r≤(syM a b c g r A B C).1∧(syM a b c g r A B C).1≤r+2:=by
 have one:(1:Int)≤1∧(1:Int)≤2130706432:=⟨by omega,by omega⟩
 have big:(1:Int)≤2130706432∧(2130706432:Int)≤2130706432:=⟨by omega,by omega⟩
 have c0:(0:Int)≤0∧(0:Int)≤CC-1:=⟨by omega,by omega⟩
 have mA:=m.a.up (r:=r) om
 have mB:=m.b.up (r:=r) om
 have mC:=m.c.up (r:=r) om
 have la:=m.la
 have lb:=m.lb
 have lc:=m.lc
 have nB:=ld mB hr c0 one
 have nC:=ld mC hr hc one
 have nB2:=ld (nB.1.up (r:=r+1) om) om c0 one
 have nC2:=ld (nC.1.up (r:=r+1) om) om hc one
 unfold syM
 by_cases h1:g.Op=1∨g.Op=2
 ·rw [if_pos h1];exact ⟨⟨m.a,m.b,m.c,by dsimp only;omega,by dsimp only;omega,by dsimp only;omega⟩,by dsimp only;omega,by dsimp only;omega⟩
 rw [if_neg h1]
 by_cases h6:g.Op=6
 ·have nA:=ld mA hr (ha om) one
  have nb:=ld mB hr (hb om om) one
  rw [if_pos h6];exact ⟨Mk3.of (n:=n+1) (by dsimp only;omega) nA.1 nb.1 nC.1 (by dsimp only;omega) (by dsimp only;omega) (by dsimp only;omega) om,by dsimp only;omega,by dsimp only;omega⟩
 rw [if_neg h6]
 by_cases h4:g.Op=4
 ·have nA:=ld mA hr (ha om) one
  have nA2:=ld nA.1 hr (hb om om) one
  rw [if_pos h4];exact ⟨Mk3.of (n:=n+2) (by dsimp only;omega) nA2.1 nB.1 nC.1 (by dsimp only;omega) (by dsimp only;omega) (by dsimp only;omega) om,by dsimp only;omega,by dsimp only;omega⟩
 rw [if_neg h4]
 by_cases h5:g.Op=5
 ·have nA:=ld mA hr (ha om) one
  have nA2:=ld nA.1 hr (hb om om) big
  rw [if_pos h5];exact ⟨Mk3.of (n:=n+2) (by dsimp only;omega) nA2.1 nB.1 nC.1 (by dsimp only;omega) (by dsimp only;omega) (by dsimp only;omega) om,by dsimp only;omega,by dsimp only;omega⟩
 rw [if_neg h5]
 by_cases h3:g.Op=3
 ·rw [if_pos h3]
  by_cases hK:g.K>0
  ·have nA:=ld mA hr c0 (v:=g.K) ⟨by omega,(hk h3).2⟩
   rw [if_pos hK];exact ⟨Mk3.of (n:=n+1) (by dsimp only;omega) nA.1 nB.1 nC.1 (by dsimp only;omega) (by dsimp only;omega) (by dsimp only;omega) om,by dsimp only;omega,by dsimp only;omega⟩
  ·rw [if_neg hK];exact ⟨Mk3.of (n:=n+1) (by dsimp only;omega) mA nB.1 nC.1 (by dsimp only;omega) (by dsimp only;omega) (by dsimp only;omega) om,by dsimp only;omega,by dsimp only;omega⟩
 rw [if_neg h3]
 by_cases h7:g.Op=7
 ·have nA:=ld mA hr (hb om om) one
  have nA2:=ld (nA.1.up (r:=r+1) om) om (ha om) one
  rw [if_pos h7];exact ⟨Mk3.of (n:=n+2) (by dsimp only;omega) nA2.1 nB2.1 nC2.1 (by dsimp only;omega) (by dsimp only;omega) (by dsimp only;omega) om,by dsimp only;omega,by dsimp only;omega⟩
 ·have nA:=ld mA hr (ha om) one
  have nA2:=ld (nA.1.up (r:=r+1) om) om (ha om) one
  have nb:=ld mB hr (ha om) one
  have nb2:=ld (nb.1.up (r:=r+1) om) om c0 one
  rw [if_neg h7];exact ⟨Mk3.of (n:=n+2) (by dsimp only;omega) nA2.1 nb2.1 nC2.1 (by dsimp only;omega) (by dsimp only;omega) (by dsimp only;omega) om,by dsimp only;omega,by dsimp only;omega⟩
end Go.AI.Fn
set_option linter.unusedVariables false
set_option linter.unusedSimpArgs false
namespace Go.AI.Fn
theorem a4O (l:List ah) (k:Nat) (op:Int):bw l op≤bw (l.take k) op+(l.length-k):=by
 have h:bw l op=bw (l.take k) op+(l.drop k).countP (fun g=>g.Op==op):=by
  conv=>lhs;rw [←List.take_append_drop k l]
  simp only [bw,List.countP_append]
 have:=List.countP_le_length (p:=fun g:ah=>g.Op==op) (l:=l.drop k)
 rw [List.length_drop] at this
 omega
theorem IY (l:List ah):2≤lgC l∧lgC l≤5:=b8i _
theorem Nz {n:Nat} (h:1≤n):((2^n:Nat):Int)=((2^(n-1):Nat):Int)+((2^(n-1):Nat):Int):=by
 obtain ⟨m,rfl⟩: ∃m,n=m+1:=⟨n-1,by omega⟩
 rw [Nat.add_sub_cancel,Nat.pow_succ];omega
theorem c0D {a b c:Int} (h:mx a b≤c):a≤c∧b≤c:=by
 unfold mx at h
 split at h<;>constructor<;>omega
theorem a0d {l:List ah} (ok:OkC l):(bw l 2:Int)+1≤((2^(lgC l-1):Nat):Int)∧(l.length:Int)-(bw l 2:Int)≤((2^(lgC l-1):Nat):Int):=by
 have h1:=ok.n2
 have h2:=ok.p
 have h3:=gB l 2
 have h4:mx ((bw l 2:Int)+1) ((l.length:Int)-(bw l 2:Int))≤15:=by unfold mx;split<;>omega
 exact c0D (b5B h4)
theorem a1R {l:List ah} (ok:OkC l) {j:Nat} (hj:j<l.length):0≤ZI l j∧ZI l j≤((2^lgC l:Nat):Int)-1:=by
 have hf:=a0d ok
 have hg:=IY l
 have hp:=Nz (n:=lgC l) om
 have h1:bw (l.take j) 2≤j:=by have:=gB (l.take j) 2;rw [List.length_take] at this;omega
 unfold ZI
 rw [show l.getD j ⟨0,0,0,0⟩=l[j] by simp [hj]]
 split
 ·rename_i h
  have:=jk hj h
  omega
 ·rename_i h
  have h2:=a4O l (j+1) 2
  rw [bt hj,fM,if_neg (by simpa using h)] at h2
  omega
theorem Ri {l:List ah} {n i:Nat} (hi:i<n):(iO l n).getD i 0=ZI l i:=by
 simp [iO,hi]
def fdM (l:List ah):Nat→Int×List ae×List ae×List ae
 |0=>(0,[],[],[])
 |j+1=>syM ((iO l l.length).getD (l.getD j ⟨0,0,0,0⟩).A.toNat 0) ((iO l l.length).getD (l.getD j ⟨0,0,0,0⟩).B.toNat 0) ((iO l l.length).getD j 0) (l.getD j ⟨0,0,0,0⟩) (fdM l j).1 (fdM l j).2.1 (fdM l j).2.2.1 (fdM l j).2.2.2
theorem Td {l:List ah} (ok:OkC l): ∀j,j≤l.length→Mk3 (fdM l j).1 (fdM l j).2.1 (fdM l j).2.2.1 (fdM l j).2.2.2 ((2^lgC l:Nat):Int) (2*j)∧0≤(fdM l j).1∧(fdM l j).1≤2*j
 |0,_=>⟨⟨MkR.nil _ _,MkR.nil _ _,MkR.nil _ _,Nat.le_refl _,Nat.le_refl _,Nat.le_refl _⟩,Int.le_refl _,by simp [fdM]⟩
 |j+1,h=>by
  obtain ⟨m,h0,h1⟩:=Td ok j om
  have hj:j<l.length:=by omega
  have hd:l.getD j ⟨0,0,0,0⟩=l[j]:=by simp [hj]
  obtain ⟨g1,g2,g3,g4⟩:=zy (ok.g j hj)
  have hp:=qF (lgC l) (by have:=IY l;omega)
  have hc: ∀a:Int,0≤a∧a≤(j:Int)-1→0≤(iO l l.length).getD a.toNat 0∧(iO l l.length).getD a.toNat 0≤((2^lgC l:Nat):Int)-1:=fun a ha=>by
   rw [Ri om];exact a1R ok om
  have hcj:0≤(iO l l.length).getD j 0∧(iO l l.length).getD j 0≤((2^lgC l:Nat):Int)-1:=by
   rw [Ri hj];exact a1R ok hj
  have:=c2w (a:=(iO l l.length).getD l[j].A.toNat 0) (b:=(iO l l.length).getD l[j].B.toNat 0) (c:=(iO l l.length).getD j 0) (g:=l[j]) h0 om (fun h=>hc _ (g2 h)) (fun h h7=>hc _ (g3 h h7)) hcj g4 g1 m
  rw [fdM,hd]
  refine ⟨?_,by omega,by omega⟩
  have e:2*(j+1)=2*j+2:=by omega
  rw [e];exact this.1
def rlM (r:Int):Nat:=if r≤2 then 1 else if r≤4 then 2 else if r≤8 then 3 else if r≤16 then 4 else 5
theorem b8R (r:Int):1≤rlM r∧rlM r≤5:=by
 unfold rlM;repeat' split
 all_goals omega
theorem b5Y {r:Int} (h:r≤32):r≤((2^rlM r:Nat):Int):=by
 unfold rlM;repeat' split
 all_goals simp<;>omega
def MD (l:List ah):aL:=⟨(rlM (fdM l l.length).1:Int),(lgC l:Int),(bw l 2:Int),(fdM l l.length).2.1,(fdM l l.length).2.2.1,(fdM l l.length).2.2.2⟩
theorem a8P {r:Int} {step:Int→Option (Int⊕(Bool×Int))} (hr:r≤32) (hs: ∀k:Nat,1≤k→k≤5→step (k:Int)=if ((2^k:Nat):Int)<r then some (.inl ((k+1:Nat):Int)) else some (.inr (false,(k:Int)))):
 Loop step 1=some (false,(rlM r:Int)):=by
 have s1:=hs 1 om om
 have s2:=hs 2 om om
 have s3:=hs 3 om om
 have s4:=hs 4 om om
 have s5:=hs 5 om om
 simp only [Nat.reducePow,Nat.reduceAdd] at s1 s2 s3 s4 s5
 unfold rlM
 by_cases h1:r≤2
 ·rw [if_pos h1];rw [if_neg om] at s1;exact dx s1
 rw [if_neg h1];rw [if_pos om] at s1
 refine (ct s1).trans ?_
 by_cases h2:r≤4
 ·rw [if_pos h2];rw [if_neg om] at s2;exact dx s2
 rw [if_neg h2];rw [if_pos om] at s2
 refine (ct s2).trans ?_
 by_cases h3:r≤8
 ·rw [if_pos h3];rw [if_neg om] at s3;exact dx s3
 rw [if_neg h3];rw [if_pos om] at s3
 refine (ct s3).trans ?_
 by_cases h4:r≤16
 ·rw [if_pos h4];rw [if_neg om] at s4;exact dx s4
 rw [if_neg h4];rw [if_pos om] at s4
 refine (ct s4).trans ?_
 rw [if_neg om] at s5;exact dx s5
end Go.AI.Fn
set_option linter.unusedVariables false
set_option linter.unusedSimpArgs false
namespace Go.AI.Fn
def eT (e:ae):Tri:=(e.Row,e.Col,e.Value)
structure Rm (r:Int) (m:List Tri) (L:List ae):Prop where
 kd:j5 m=true
 lt: ∀t∈m,t.1<r
 eq:L.map eT=cK (m.filter nzT)
theorem Rm.nil (r:Int):Rm r [] []:=⟨rfl,(fun t h=>by cases h),(List.length_eq_zero_iff.1 (j9 []).length_eq).symm⟩
theorem Rm.up {r r':Int} {m:List Tri} {L:List ae} (h:Rm r m L) (hr:r≤r'):Rm r' m L:=⟨h.kd,fun t ht=>by have:=h.lt t ht;omega,h.eq⟩
theorem Rm.row {r:Int} {m:List Tri} {L:List ae} (h:Rm r m L): ∀e∈L,e.Row<r:=fun e he=>by
 have:eT e∈cK (m.filter nzT):=by rw [←h.eq];exact List.mem_map.2 ⟨e,he,rfl⟩
 have:=(j9 _).mem_iff.1 this
 exact h.lt _ (List.mem_filter.1 this).1
theorem a5P {x y:Tri} (h:x.1≠y.1):CM x y=false:=by
 simp only [CM,decide_eq_false_iff_not];omega
theorem Rm.app {r:Int} {m N:List Tri} {L E:List ae} (h:Rm r m L) (hN: ∀t∈N,t.1=r) (hk:j5 N=true) (hE:(E.map eT).Perm (N.filter nzT)) (hs:(E.map eT).Pairwise (fun x y=>vO y x=false)):Rm (r+1) (m++N) (L++E):=by
 have hkd:j5 (m++N)=true:=by
  refine qd (List.pairwise_append.2 ⟨nQ h.kd,nQ hk,fun a ha b hb=>a5P ?_⟩)
  have:=h.lt a ha;have:=hN b hb;omega
 refine ⟨hkd,fun t ht=> ?_, ?_⟩
 ·rcases List.mem_append.1 ht with ht|ht
  ·have:=h.lt t ht;omega
  ·have:=hN t ht;omega
 ·refine A9 (qd ((nQ hkd).filter _)) ?_ ?_
  ·rw [List.map_append,List.filter_append,h.eq]
   exact (j9 _).append hE
  ·rw [List.map_append]
   refine List.pairwise_append.2 ⟨by rw [h.eq];exact zW _,hs,fun a ha b hb=> ?_⟩
   obtain ⟨e,he,rfl⟩:=List.mem_map.1 ha
   have h1:=h.row e he
   have h2:=hN b (List.mem_filter.1 (hE.mem_iff.1 hb)).1
   rw [wT]
   simp only [eT]
   omega
theorem BB {r c:Int}: ∀{m:List Tri},(∀t∈m,t.1<r)→ea r c m=0
 |[],_=>rfl
 | (x,y,v)::m,h=>by
   have h0:=h (x,y,v) (by simp)
   simp only at h0
   rw [ea,if_neg om];exact BB (fun t ht=>h t (by simp [ht]))
theorem BN {r c v:Int}: ∀{m:List Tri},(∀t∈m,t.1<r)→ew r c v m=m++[(r,c,v)]
 |[],_=>rfl
 | (x,y,u)::m,h=>by
   have h0:=h (x,y,u) (by simp)
   simp only at h0
   rw [ew,if_neg om,BN (fun t ht=>h t (by simp [ht]))];rfl
theorem Oi {r c:Int} {N:List Tri}: ∀{m:List Tri},(∀t∈m,t.1<r)→ea r c (m++N)=ea r c N
 |[],_=>rfl
 | (x,y,v)::m,h=>by
   have h0:=h (x,y,v) (by simp)
   simp only at h0
   rw [List.cons_append,ea,if_neg om];exact Oi (fun t ht=>h t (by simp [ht]))
theorem XD {r c v:Int} {N:List Tri}: ∀{m:List Tri},(∀t∈m,t.1<r)→ew r c v (m++N)=m++ew r c v N
 |[],_=>rfl
 | (x,y,u)::m,h=>by
   have h0:=h (x,y,u) (by simp)
   simp only at h0
   rw [List.cons_append,ew,if_neg om,XD (fun t ht=>h t (by simp [ht]))];rfl
theorem b4w {v:Int} (h:okF v):aF 0 v=v:=by
 unfold aF okF at*;omega
theorem Rw {r c v:Int} {L:List ae} (h: ∀e∈L,e.Row<r):enM L r c v=L++[⟨r,c,v⟩]:=by
 unfold enM
 have: ∀R:List ae,(∀e∈R,e.Row<r)→enR r c v R=⟨r,c,v⟩::R:=by
  intro R hR
  cases R with
  |nil=>rfl
  |cons e R=>
   have:=hR e (by simp)
   have h1:enP r c e=false:=by
    simp only [enP,Bool.and_eq_false_iff,decide_eq_false_iff_not];omega
   rw [enR,if_neg (by rw [h1];simp),if_neg om]
 rw [this _ (fun e he=>h e (by simpa using he))]
 simp
theorem b2U {r c1 c2 v1 v2:Int} {L:List ae} (h: ∀e∈L,e.Row<r):enM (L++[⟨r,c1,v1⟩]) r c2 v2=
 if c1>c2 then L++[⟨r,c2,v2⟩,⟨r,c1,v1⟩] else if c1=c2 then (if aF v1 v2=0 then L else L++[⟨r,c2,aF v1 v2⟩]) else L++[⟨r,c1,v1⟩,⟨r,c2,v2⟩]:=by
 by_cases h1:c1>c2
 ·rw [if_pos h1,Rh (fun e he=>by simp at he;subst he;simp [enP];omega),Rw h]
  simp
 ·rw [if_neg h1]
  unfold enM
  rw [List.reverse_append,List.reverse_singleton,List.singleton_append,enR,if_neg (by simp [enP];omega)]
  by_cases h2:c1=c2
  ·rw [if_pos ⟨rfl,h2⟩,if_pos h2]
   split<;>simp
  ·rw [if_neg (fun h=>h2 h.2),if_neg h2]
   simp
theorem c2O {r c v:Int} (h:v≠0):nzT (r,c,v)=true:=by simp [nzT,h]
theorem a7H {r c v:Int} (h:v≠0):([(r,c,v)]:List Tri).filter nzT=[(r,c,v)]:=by rw [List.filter_cons,if_pos (c2O h)];rfl
theorem b74 {r c:Int}:([(r,c,0)]:List Tri).filter nzT=[]:=rfl
theorem Rm.one {r c v:Int} {m:List Tri} {L:List ae} (h:Rm r m L) (hv:v≠0):Rm (r+1) (ew r c v m) (enM L r c v):=by
 rw [BN h.lt,Rw h.row]
 refine h.app (fun t ht=>by simp at ht;subst ht;rfl) rfl ?_ ?_
 ·rw [a7H hv];exact List.Perm.refl _
 ·simp
theorem Rm.add1 {r c v:Int} {m:List Tri} {L:List ae} (h:Rm r m L) (hv:1≤v∧v≤2130706432):Rm (r+1) (ew r c (aF (ea r c m) v) m) (enM L r c v):=by
 rw [BB h.lt,b4w ⟨by omega,hv.2⟩];exact h.one om
theorem Rm.add0 {r c:Int} {m:List Tri} {L:List ae} (h:Rm r m L):Rm (r+1) (ew r c (aF (ea r c m) 0) m) L:=by
 rw [BB h.lt,b4w ⟨by omega,by omega⟩,BN h.lt]
 have:=h.app (N:=[(r,c,0)]) (E:=[]) (fun t ht=>by simp at ht;subst ht;rfl) rfl (by rw [b74];exact List.Perm.refl _) (by simp)
 simpa using this
theorem Rm.add2 {r c1 c2 v1 v2:Int} {m:List Tri} {L:List ae} (h:Rm r m L) (h1:1≤v1∧v1≤2130706432) (h2:1≤v2∧v2≤2130706432):
 Rm (r+1) (ew r c2 (aF (ea r c2 (ew r c1 (aF (ea r c1 m) v1) m)) v2) (ew r c1 (aF (ea r c1 m) v1) m)) (enM (enM L r c1 v1) r c2 v2):=by
 rw [BB h.lt,b4w (v:=v1) ⟨by omega,h1.2⟩,BN h.lt,Oi h.lt,XD h.lt,Rw h.row,b2U h.row]
 by_cases hc:c1=c2
 ·subst hc
  rw [if_neg om,if_pos rfl]
  have e1:ea r c1 [(r,c1,v1)]=v1:=by simp [ea]
  have e2: ∀u,ew r c1 u [(r,c1,v1)]=[(r,c1,u)]:=fun u=>by simp [ew]
  rw [e1,e2]
  by_cases hz:aF v1 v2=0
  ·rw [if_pos hz,hz]
   have:=h.app (N:=[(r,c1,0)]) (E:=[]) (fun t ht=>by simp at ht;subst ht;rfl) rfl (by rw [b74];exact List.Perm.refl _) (by simp)
   simpa using this
  ·rw [if_neg hz]
   refine h.app (fun t ht=>by simp at ht;subst ht;rfl) rfl ?_ ?_
   ·rw [a7H hz];exact List.Perm.refl _
   ·simp
 ·have e1:ea r c2 [(r,c1,v1)]=0:=by simp [ea];omega
  have e2: ∀u,ew r c2 u [(r,c1,v1)]=[(r,c1,v1),(r,c2,u)]:=fun u=>by
   rw [ew,if_neg om];rfl
  rw [e1,e2,b4w ⟨by omega,h2.2⟩]
  have hN: ∀t∈([(r,c1,v1),(r,c2,v2)]:List Tri),t.1=r:=fun t ht=>by simp at ht;rcases ht with rfl|rfl<;>rfl
  have hk:j5 [(r,c1,v1),(r,c2,v2)]=true:=by simp [j5,CM];omega
  have hf:([(r,c1,v1),(r,c2,v2)]:List Tri).filter nzT=[(r,c1,v1),(r,c2,v2)]:=by
   rw [List.filter_cons,if_pos (c2O om),a7H om]
  by_cases hgt:c1>c2
  ·rw [if_pos hgt]
   refine h.app hN hk ?_ ?_
   ·rw [hf];exact List.Perm.swap _ _ _
   ·simp only [List.map_cons,List.map_nil,eT,List.pairwise_cons,List.mem_singleton,forall_eq,wT]
    refine ⟨by omega,by simp⟩
  ·rw [if_neg hgt,if_neg hc]
   refine h.app hN hk ?_ ?_
   ·rw [hf];exact List.Perm.refl _
   ·simp only [List.map_cons,List.map_nil,eT,List.pairwise_cons,List.mem_singleton,forall_eq,wT]
    refine ⟨by omega,by simp⟩
theorem kO (r c v:Int): ∀m:List Tri,(ew r c v m).length≤m.length+1
 |[]=>by simp [ew]
 | (x,y,u)::m=>by
   rw [ew];split
   ·simp
   ·have:=kO r c v m;simp;omega
theorem Uf {r c:Int} {m:List Tri} (h: ∀t∈m,t.1<r):okF (ea r c m):=by rw [BB h];exact ⟨by omega,by omega⟩
theorem Rm.ent {r:Int} {m:List Tri} {L:List ae} (h:Rm r m L) (hl:m.length<1073741824):qP m=some (L,m):=by
 unfold qP
 rw [h.kd,Bool.true_and,brd hl, ←h.eq]
 have:(L.map eT).map wu=L:=by
  rw [List.map_map]
  have: ∀e∈L,(wu∘eT) e=e:=fun e _=>rfl
  rw [List.map_congr_left this];simp
 rw [this]
end Go.AI.Fn
set_option linter.unusedVariables false
set_option linter.unusedSimpArgs false
namespace Go.AI.Fn
theorem Ld {g:ah} {k:Int} (h0:0≤k) (h1:k≤1048576):Cf g k=some (i4 g k):=by
 unfold Cf i4
 simp only [Vv,ux,obs]
 rw [aa (k-1) om om]
 obtain ⟨op,a,b,c⟩:=g
 dsimp only
 generalize decide (0≤a∧a≤k-1)=x
 generalize decide (0≤b∧b≤k-1)=y
 generalize vg c=z
 generalize (a==0)=za
 generalize (b==0)=zb
 generalize (c==0)=zc
 have hop:op=3∨op=4∨op=5∨op=6∨op=7∨op=8∨(op≠3∧op≠4∧op≠5∧op≠6∧op≠7∧op≠8):=by omega
 rcases hop with rfl|rfl|rfl|rfl|rfl|rfl|⟨h3,h4,h5,h6,h7,h8⟩
 ·cases x<;>cases y<;>cases z<;>cases za<;>cases zb<;>cases zc<;>rfl
 ·cases x<;>cases y<;>cases z<;>cases za<;>cases zb<;>cases zc<;>rfl
 ·cases x<;>cases y<;>cases z<;>cases za<;>cases zb<;>cases zc<;>rfl
 ·cases x<;>cases y<;>cases z<;>cases za<;>cases zb<;>cases zc<;>rfl
 ·cases x<;>cases y<;>cases z<;>cases za<;>cases zb<;>cases zc<;>rfl
 ·cases x<;>cases y<;>cases z<;>cases za<;>cases zb<;>cases zc<;>rfl
 ·have hu:pJ op=0:=by unfold pJ;rw [if_neg om,if_neg h8]
  have e3:(op==3)=false:=by simpa using h3
  have e4:(op==4)=false:=by simpa using h4
  have e5:(op==5)=false:=by simpa using h5
  have e6:(op==6)=false:=by simpa using h6
  have e7:(op==7)=false:=by simpa using h7
  have e8:(op==8)=false:=by simpa using h8
  rw [hu,e3,e4,e5,e6,e7,e8]
  generalize decide (1≤op∧op≤8)=o
  cases o<;>cases za<;>cases zb<;>cases zc<;>rfl
theorem Am {c:Circuit} {op:Int} (h:c.Gates.length≤1048576):da c op=some (bw c.Gates op:Int):=by
 unfold da
 have key:=aH (step:=de op c.Gates (c.Gates.length:Int) c.Gates) (fun j=>((bw (c.Gates.take j) op:Int),(j:Int))) c.Gates.length (e:=((bw c.Gates op:Int),(c.Gates.length:Int),false)) (fun j hj=> ?_) ?_
 ·rw [show ((0:Int),(0:Int))=((bw (c.Gates.take 0) op:Int),((0:Nat):Int)) from rfl,key];rfl
 ·have hle:=gB (c.Gates.take j) op
  rw [List.length_take] at hle
  simp only [de]
  rw [brd om,bN hj,obs,bt hj,fM]
  cases hb:(c.Gates[j].Op==op)
  ·rw [aK,if_neg (by simp),aa _ om om];simp
  ·rw [bM,if_pos rfl,aa _ om om,aa _ om om];simp
 ·simp only [de]
  rw [brn om,decide_eq_false om,List.take_length]
theorem D5 {c:Circuit} (h:c.Gates.length≤1048576):o6 c=some (AO c.Gates):=by
 unfold o6 AO
 rw [Vv,obs]
 by_cases h1:1≤c.Gates.length∧c.Gates.length≤15
 ·rw [decide_eq_true om,decide_eq_true h1,Bool.not_true,aK,Bool.true_and]
  have key:=sg (step:=dn c.Gates (c.Gates.length:Int) c.Gates) (fun k=>(k:Int)) c.Gates.length (fun k=>((c.Gates[k]?.map fun g=>i4 g (k:Int)).getD false)) (fun k=> .inl ((c.Gates.getD k ⟨0,0,0,0⟩).Op,(c.Gates.getD k ⟨0,0,0,0⟩).A,(c.Gates.getD k ⟨0,0,0,0⟩).B,(c.Gates.getD k ⟨0,0,0,0⟩).K)) (e:= .inr ((c.Gates.length:Int),false)) (fun k hk hp=>by
   have hb:i4 c.Gates[k] (k:Int)=true:=by simpa [hk] using hp
   simp only [dn]
   rw [brd om,bN hk,obs,Ld om om,obs,hb,Bool.not_true,aK,aa _ om om];rfl)
   (fun k hk hp=>by
    have hb:i4 c.Gates[k] (k:Int)=false:=by simpa [hk] using hp
    have hd:c.Gates.getD k ⟨0,0,0,0⟩=c.Gates[k]:=by simp [hk]
    simp only [dn]
    rw [brd om,bN hk,obs,Ld om om,obs,hb,Bool.not_false,bM,hd])
   (by simp only [dn];rw [brn om,decide_eq_false om])
  rcases key with ⟨h2,h3⟩|⟨k,hk,h2,_,h3⟩
  ·have e:Loop (dn c.Gates (c.Gates.length:Int) c.Gates) 0=some (.inr ((c.Gates.length:Int),false)):=h3
   have ha:(List.range c.Gates.length).all (fun k=>((c.Gates[k]?.map fun g=>i4 g (k:Int)).getD false))=true:=List.all_eq_true.2 fun k hk=>h2 k (List.mem_range.1 hk)
   rw [e,ha,obs,wG,Am h,obs,Bool.true_and]
  ·have e:Loop (dn c.Gates (c.Gates.length:Int) c.Gates) 0=some (.inl _):=h3
   have ha:(List.range c.Gates.length).all (fun k=>((c.Gates[k]?.map fun g=>i4 g (k:Int)).getD false))=false:=List.all_eq_false.2 ⟨k,List.mem_range.2 hk,by rw [h2];simp⟩
   rw [e,ha,obs,ue,Bool.false_and]
 ·rw [decide_eq_false om,decide_eq_false h1,Bool.not_false,bM,Bool.false_and]
theorem a2f {c v a2 a3 r:Int} {mA mB mC:List Tri} (h0:0≤r) (h1:r≤1000) (hm:okF (ea r c mA)) (hv:okF v):
 ck [(c,v)] a2 a3 r mA mB mC=some (r+1,ew r c (aF (ea r c mA) v) mA,ew r a2 1 mB,ew r a3 1 mC):=by
 unfold ck
 have s1:bP mB mC a2 a3 [(c,v)] (([(c,v)]:List (Int×Int)).length:Int) r (mA,0)=some (.inl (ew r c (aF (ea r c mA) v) mA,1)):=by
  simp only [bP]
  rw [brd (by simp)]
  show (Option.bind (some (c,v)) _)=_
  rw [obs,pu hm hv,obs,aa _ om om];rfl
 have s2:bP mB mC a2 a3 [(c,v)] (([(c,v)]:List (Int×Int)).length:Int) r (ew r c (aF (ea r c mA) v) mA,1)=some (.inr (ew r c (aF (ea r c mA) v) mA,1,false)):=by
  simp only [bP]
  rw [brn (by simp),decide_eq_false (by simp)]
 rw [ct s1,dx s2,obs,aa _ om om]
theorem b6J {c1 v1 c2 v2 a2 a3 r:Int} {mA mB mC:List Tri} (h0:0≤r) (h1:r≤1000) (hm:okF (ea r c1 mA)) (hv1:okF v1) (hm2:okF (ea r c2 (ew r c1 (aF (ea r c1 mA) v1) mA))) (hv2:okF v2):
 ck [(c1,v1),(c2,v2)] a2 a3 r mA mB mC=some (r+1,ew r c2 (aF (ea r c2 (ew r c1 (aF (ea r c1 mA) v1) mA)) v2) (ew r c1 (aF (ea r c1 mA) v1) mA),ew r a2 1 mB,ew r a3 1 mC):=by
 unfold ck
 have s1:bP mB mC a2 a3 [(c1,v1),(c2,v2)] (([(c1,v1),(c2,v2)]:List (Int×Int)).length:Int) r (mA,0)=some (.inl (ew r c1 (aF (ea r c1 mA) v1) mA,1)):=by
  simp only [bP]
  rw [brd (by simp)]
  show (Option.bind (some (c1,v1)) _)=_
  rw [obs,pu hm hv1,obs,aa _ om om];rfl
 generalize ew r c1 (aF (ea r c1 mA) v1) mA=m1 at*
 have s2:bP mB mC a2 a3 [(c1,v1),(c2,v2)] (([(c1,v1),(c2,v2)]:List (Int×Int)).length:Int) r (m1,1)=some (.inl (ew r c2 (aF (ea r c2 m1) v2) m1,2)):=by
  simp only [bP]
  rw [brd (by simp)]
  show (Option.bind (some (c2,v2)) _)=_
  rw [obs,pu hm2 hv2,obs,aa _ om om];rfl
 have s3:bP mB mC a2 a3 [(c1,v1),(c2,v2)] (([(c1,v1),(c2,v2)]:List (Int×Int)).length:Int) r (ew r c2 (aF (ea r c2 m1) v2) m1,2)=some (.inr (ew r c2 (aF (ea r c2 m1) v2) m1,2,false)):=by
  simp only [bP]
  rw [brn (by simp),decide_eq_false (by simp)]
 rw [ct s1,ct s2,dx s3,obs,aa _ om om]
theorem WG {r c1 c2 u:Int} {m:List Tri} (h: ∀t∈m,t.1<r) (hu:okF u):okF (ea r c2 (ew r c1 u m)):=by
 rw [BN h,Oi h]
 by_cases hc:c1=c2
 ·have:ea r c2 [(r,c1,u)]=u:=by simp [ea,hc]
  rw [this];exact hu
 ·have:ea r c2 [(r,c1,u)]=0:=by simp [ea];exact fun e=>absurd e.symm hc
  rw [this];exact ⟨by omega,by omega⟩
structure R3 (r:Int) (mA mB mC:List Tri) (A B C:List ae) (n:Nat):Prop where
 a:Rm r mA A
 b:Rm r mB B
 c:Rm r mC C
 la:mA.length≤n
 lb:mB.length≤n
 lc:mC.length≤n
theorem Dt {c v a2 a3 r:Int} {mA mB mC:List Tri} {A B C:List ae} {n:Nat} (h0:0≤r) (h1:r≤1000) (hv:1≤v∧v≤2130706432) (h:R3 r mA mB mC A B C n):
 ∃mA' mB' mC',ck [(c,v)] a2 a3 r mA mB mC=some (r+1,mA',mB',mC')∧R3 (r+1) mA' mB' mC' (enM A r c v) (enM B r a2 1) (enM C r a3 1) (n+1):=
 ⟨_,_,_,a2f h0 h1 (Uf h.a.lt) ⟨by omega,hv.2⟩,h.a.add1 hv,h.b.one om,h.c.one om,by have:=kO r c (aF (ea r c mA) v) mA;have:=h.la;omega,by have:=kO r a2 1 mB;have:=h.lb;omega,by have:=kO r a3 1 mC;have:=h.lc;omega⟩
theorem b4a {c a2 a3 r:Int} {mA mB mC:List Tri} {A B C:List ae} {n:Nat} (h0:0≤r) (h1:r≤1000) (h:R3 r mA mB mC A B C n):
 ∃mA' mB' mC',ck [(c,0)] a2 a3 r mA mB mC=some (r+1,mA',mB',mC')∧R3 (r+1) mA' mB' mC' A (enM B r a2 1) (enM C r a3 1) (n+1):=
 ⟨_,_,_,a2f h0 h1 (Uf h.a.lt) ⟨by omega,by omega⟩,h.a.add0,h.b.one om,h.c.one om,by have:=kO r c (aF (ea r c mA) 0) mA;have:=h.la;omega,by have:=kO r a2 1 mB;have:=h.lb;omega,by have:=kO r a3 1 mC;have:=h.lc;omega⟩
theorem a1y {c1 v1 c2 v2 a2 a3 r:Int} {mA mB mC:List Tri} {A B C:List ae} {n:Nat} (h0:0≤r) (h1:r≤1000) (hv1:1≤v1∧v1≤2130706432) (hv2:1≤v2∧v2≤2130706432) (h:R3 r mA mB mC A B C n):
 ∃mA' mB' mC',ck [(c1,v1),(c2,v2)] a2 a3 r mA mB mC=some (r+1,mA',mB',mC')∧R3 (r+1) mA' mB' mC' (enM (enM A r c1 v1) r c2 v2) (enM B r a2 1) (enM C r a3 1) (n+2):=
 ⟨_,_,_,b6J h0 h1 (Uf h.a.lt) ⟨by omega,hv1.2⟩ (WG h.a.lt (a28 _ _)) ⟨by omega,hv2.2⟩,h.a.add2 hv1 hv2,h.b.one om,h.c.one om,by
   have:=kO r c1 (aF (ea r c1 mA) v1) mA
   have:=kO r c2 (aF (ea r c2 (ew r c1 (aF (ea r c1 mA) v1) mA)) v2) (ew r c1 (aF (ea r c1 mA) v1) mA)
   have:=h.la;omega,by have:=kO r a2 1 mB;have:=h.lb;omega,by have:=kO r a3 1 mC;have:=h.lc;omega⟩
theorem R3.up {r:Int} {mA mB mC:List Tri} {A B C:List ae} {n m:Nat} (h:R3 r mA mB mC A B C n) (hn:n≤m):R3 r mA mB mC A B C m:=⟨h.a,h.b,h.c,by have:=h.la;omega,by have:=h.lb;omega,by have:=h.lc;omega⟩
theorem s8 {t:List Int} {p v:Int} (h:0≤p∧p<t.length):ce p v t=some [(t.getD p.toNat 0,v)]:=by
 unfold ce
 obtain ⟨k,rfl⟩: ∃k:Nat,p=k:=⟨p.toNat,by omega⟩
 rw [oR om,obs,Int.toNat_natCast]
theorem b79 {t:List Int} {p:Int} (h:0≤p∧p<t.length):atL t p=some (t.getD p.toNat 0):=by
 obtain ⟨k,rfl⟩: ∃k:Nat,p=k:=⟨p.toNat,by omega⟩
 rw [oR om,Int.toNat_natCast]
theorem a5g {t:List Int} {g:ah} {k c r:Int} {mA mB mC:List Tri} {A B C:List ae} {n:Nat} (hg:i4 g k=true) (hk:k<t.length) (h0:0≤r) (h1:r≤100) (h:R3 r mA mB mC A B C n):
 ∃mA' mB' mC',pn g c t r mA mB mC=some ((syM (t.getD g.A.toNat 0) (t.getD g.B.toNat 0) c g r A B C).1,mA',mB',mC')∧
  R3 (syM (t.getD g.A.toNat 0) (t.getD g.B.toNat 0) c g r A B C).1 mA' mB' mC' (syM (t.getD g.A.toNat 0) (t.getD g.B.toNat 0) c g r A B C).2.1 (syM (t.getD g.A.toNat 0) (t.getD g.B.toNat 0) c g r A B C).2.2.1 (syM (t.getD g.A.toNat 0) (t.getD g.B.toNat 0) c g r A B C).2.2.2 (n+2):=by
 obtain ⟨g1,g2,g3,g4⟩:=zy hg
 have one:(1:Int)≤1∧(1:Int)≤2130706432:=⟨by omega,by omega⟩
 have big:(1:Int)≤2130706432∧(2130706432:Int)≤2130706432:=⟨by omega,by omega⟩
 unfold pn
 have hop:g.Op=1∨g.Op=2∨g.Op=3∨g.Op=4∨g.Op=5∨g.Op=6∨g.Op=7∨g.Op=8:=by omega
 rcases hop with e|e|e|e|e|e|e|e
 ·rw [bc om,bc om,bc om,bc om,bc om,bc om]
  simp only [syM,e]
  exact ⟨_,_,_,rfl,h.up om⟩
 ·rw [bc om,bc om,bc om,bc om,bc om,bc om]
  simp only [syM,e]
  exact ⟨_,_,_,rfl,h.up om⟩
 ·have hk3:=g4 e
  rw [bre e]
  by_cases hp:g.K>0
  ·obtain ⟨x,y,z,e1,e2⟩:=Dt (c:=0) (v:=g.K) (a2:=0) (a3:=c) h0 om ⟨by omega,hk3.2⟩ h
   rw [e1,obs]
   simp only [syM,e,if_pos hp]
   exact ⟨_,_,_,rfl,e2.up om⟩
  ·have hz:g.K=0:=by have:=hk3.1;omega
   obtain ⟨x,y,z,e1,e2⟩:=b4a (c:=0) (a2:=0) (a3:=c) h0 om h
   rw [hz,e1,obs]
   simp only [syM,e,if_neg hp]
   exact ⟨_,_,_,rfl,e2.up om⟩
 ·have a:=g2 om
  have b:=g3 om om
  rw [bc om,bre e,s8 om,obs,s8 om,obs,aA (by simp)]
  obtain ⟨x,y,z,e1,e2⟩:=a1y (c1:=t.getD g.A.toNat 0) (v1:=1) (c2:=t.getD g.B.toNat 0) (v2:=1) (a2:=0) (a3:=c) h0 om one one h
  rw [List.singleton_append,e1,obs]
  simp only [syM,e]
  exact ⟨_,_,_,rfl,e2⟩
 ·have a:=g2 om
  have b:=g3 om om
  rw [bc om,bc om,bre e,s8 om,obs,s8 om,obs,aA (by simp)]
  obtain ⟨x,y,z,e1,e2⟩:=a1y (c1:=t.getD g.A.toNat 0) (v1:=1) (c2:=t.getD g.B.toNat 0) (v2:=2130706432) (a2:=0) (a3:=c) h0 om one big h
  rw [List.singleton_append,e1,obs]
  simp only [syM,e]
  exact ⟨_,_,_,rfl,e2⟩
 ·have a:=g2 om
  have b:=g3 om om
  rw [bc om,bc om,bc om,bre e,s8 om,obs,b79 om,obs]
  obtain ⟨x,y,z,e1,e2⟩:=Dt (c:=t.getD g.A.toNat 0) (v:=1) (a2:=t.getD g.B.toNat 0) (a3:=c) h0 om one h
  rw [e1,obs]
  simp only [syM,e]
  exact ⟨_,_,_,rfl,e2.up om⟩
 ·have a:=g2 om
  have b:=g3 om om
  rw [bc om,bc om,bc om,bc om,bre e,s8 om,obs]
  obtain ⟨x,y,z,e1,e2⟩:=Dt (c:=t.getD g.B.toNat 0) (v:=1) (a2:=0) (a3:=c) h0 om one h
  obtain ⟨x',y',z',e3,e4⟩:=Dt (c:=t.getD g.A.toNat 0) (v:=1) (a2:=0) (a3:=c) om om one e2
  rw [e1,obs,s8 om,obs,e3,obs]
  simp only [syM,e]
  exact ⟨_,_,_,rfl,e4⟩
 ·have a:=g2 om
  rw [bc om,bc om,bc om,bc om,bc om,bre e,s8 om,obs,b79 om,obs]
  obtain ⟨x,y,z,e1,e2⟩:=Dt (c:=t.getD g.A.toNat 0) (v:=1) (a2:=t.getD g.A.toNat 0) (a3:=c) h0 om one h
  obtain ⟨x',y',z',e3,e4⟩:=Dt (c:=t.getD g.A.toNat 0) (v:=1) (a2:=0) (a3:=c) om om one e2
  rw [e1,obs,obs,e3,obs]
  simp only [syM,e]
  exact ⟨_,_,_,rfl,e4⟩
end Go.AI.Fn
