/- Vectors, tables, what is public at a point. -/
import Derived.Test.YtdmhkkcihecndaaGreatPv0
set_option linter.unusedVariables false
set_option linter.unusedSimpArgs false
namespace Go.AI.Fn
theorem Nx {k:Nat} (h:k≤62):aD .i64 1 (k:Int)=((2^k:Nat):Int):=by
 have h2: ∀k:Nat,k<63→(2:Int)^k≤4611686018427387904∧0<(2:Int)^k:=by decide
 obtain ⟨h3,h4⟩:=h2 k om
 show IntKind.wrap .i64 (1*2^(min ((k:Int).toNat) 64))=_
 rw [Int.toNat_natCast,Nat.min_eq_left om,Int.one_mul,aa _ om om]
 simp
def yO (h n:Nat) (pub priv:List Int):List Int:=((1::pub)++List.replicate (h-1-pub.length) 0)++(priv++List.replicate (n-h-priv.length) 0)
theorem Zd {h n:Nat} {pub priv:List Int} (h1:pub.length+1≤h) (h2:priv.length≤n-h) (h3:h≤n):(yO h n pub priv).length=n:=by simp [yO];omega
theorem a3N {l r:List Int} {s:Nat} (h:s+r.length≤l.length):xk l s r.length r=l.take s++(r++l.drop (s+r.length)):=by
 rw [xk,List.take_length]
theorem b0g {h n:Nat} {pub priv:List Int} (h1:pub.length+1≤h) (h2:priv.length≤n-h) (h3:h≤n):
 xk (xk ((List.replicate n (0:Int)).set 0 1) 1 pub.length pub) h priv.length priv=yO h n pub priv:=by
 obtain ⟨m,rfl⟩: ∃m,n=m+1:=⟨n-1,by omega⟩
 have e1:(List.replicate (m+1) (0:Int)).set 0 1=1::List.replicate m 0:=by rw [List.replicate_succ];rfl
 have e2:xk (1::List.replicate m (0:Int)) 1 pub.length pub=1::(pub++List.replicate (m-pub.length) 0):=by
  rw [a3N (by simp;omega),Nat.add_comm 1];simp
 rw [e1,e2,a3N (by simp;omega),yO]
 have e3:(1::(pub++List.replicate (m-pub.length) (0:Int))).take h=(1::pub)++List.replicate (h-1-pub.length) 0:=by
  obtain ⟨q,rfl⟩: ∃q,h=q+1:=⟨h-1,by omega⟩
  rw [List.take_succ_cons,List.take_append,List.take_of_length_le om,List.take_replicate,Nat.min_eq_left om]
  simp
 have e4:(1::(pub++List.replicate (m-pub.length) (0:Int))).drop (h+priv.length)=List.replicate (m+1-h-priv.length) 0:=by
  obtain ⟨q,rfl⟩: ∃q,h=q+1:=⟨h-1,by omega⟩
  rw [show q+1+priv.length=(q+priv.length)+1 by omega,List.drop_succ_cons,List.drop_append,List.drop_eq_nil_of_le om,List.nil_append,List.drop_replicate]
  congr 1;omega
 rw [e3,e4]
def ew (s:System):Nat:=2^(s.Cols.toNat-1)
theorem uS {s:System} (h:ne s=true):2≤s.Cols.toNat∧s.Cols.toNat≤5∧s.Cols=(s.Cols.toNat:Int):=by
 obtain ⟨_,h2,_⟩:=fQ h;omega
theorem HU {s:System} (h:ne s=true):2^s.Cols.toNat=2*ew s:=by
 obtain ⟨h1,_⟩:=uS h
 rw [ew, ←Nat.pow_succ'];congr 1;omega
theorem Do: ∀k:Nat,k≤5→1≤2^k∧2^k≤32:=by decide
theorem TX {s:System} (h:ne s=true):fT s=some (ew s:Int):=by
 obtain ⟨h1,h2,h3⟩:=uS h
 unfold fT
 rw [aa _ om om,brd om,show s.Cols-1=((s.Cols.toNat-1:Nat):Int) by omega,Nx om];rfl
theorem YY {s:System} (h:ne s=true) {pub priv:List Int} (h1:pub.length+1≤ew s) (h2:priv.length≤ew s):jA s pub priv=some (yO (ew s) (2^s.Cols.toNat) pub priv):=by
 obtain ⟨c1,c2,c3⟩:=uS h
 have hh:=HU h
 have hb:=Do s.Cols.toNat c2
 unfold jA
 rw [brd om,c3,Nx om, ←c3]
 simp only [Int.toNat_natCast,List.length_replicate]
 have hn0:0<(List.replicate (2^s.Cols.toNat) (0:Int)).length:=by rw [List.length_replicate];omega
 rw [Ay om om om,brd om,eu hn0,brd om,brd om,TX h,obs,Bq om om,brd om]
 simp only [Int.toNat_natCast]
 rw [Nat.min_eq_left om,Nat.min_eq_left om,b0g h1 om om]
theorem b7Q {pub priv:List Int} {h c c2 c3:Int} {A B C:List Entry} {n:Nat} (hn:pub.length+1≤n) (hb:n≤1000000):
 Loop (fu pub priv h c c2 c3 A B C) ((List.replicate n (0:Int)).set 0 1,0)=some ((1::pub)++List.replicate (n-1-pub.length) 0,(pub.length:Int),false):=by
 have key:=aA (step:=fu pub priv h c c2 c3 A B C) (fun k=>((1::pub.take k)++List.replicate (n-(k+1)) 0,(k:Int))) pub.length (e:=((1::pub)++List.replicate (n-1-pub.length) 0,(pub.length:Int),false)) (fun k hk=>by
  have hlen:((1::pub.take k)++List.replicate (n-(k+1)) (0:Int)).length=n:=by simp;omega
  simp only [fu]
  rw [brd om,bO hk,obs,aa (1+(k:Int)) om om,show (1:Int)+(k:Int)=((k+1:Nat):Int) by omega,brd om,brd om,rF om,obs,Int.toNat_natCast,NX om (by simp;omega),
   aa _ om om,cm hk]
  simp) (by
  simp only [fu]
  rw [brn om,decide_eq_false om,List.take_length,show n-(pub.length+1)=n-1-pub.length by omega])
 obtain ⟨m,rfl⟩: ∃m,n=m+1:=⟨n-1,by omega⟩
 have e:(List.replicate (m+1) (0:Int)).set 0 1=(1::pub.take 0)++List.replicate (m+1-(0+1)) 0:=by rw [List.replicate_succ];simp
 rw [e];exact key
theorem b6P {L priv:List Int} {h n:Nat} {c c2 c3:Int} {A B C:List Entry} (hL:L.length=h) (hp:priv.length≤n-h) (hh:h≤n) (hb:n≤1000000):
 Loop (fy priv (h:Int) c c2 c3 A B C) (L++List.replicate (n-h) 0,0)=some (L++(priv++List.replicate (n-h-priv.length) 0),(priv.length:Int),false):=by
 have key:=aA (step:=fy priv (h:Int) c c2 c3 A B C) (fun k=>((L++priv.take k)++List.replicate (n-(h+k)) 0,(k:Int))) priv.length (e:=(L++(priv++List.replicate (n-h-priv.length) 0),(priv.length:Int),false)) (fun k hk=>by
  have hlen:((L++priv.take k)++List.replicate (n-(h+k)) (0:Int)).length=n:=by simp;omega
  simp only [fy]
  rw [brd om,bO hk,obs,aa ((h:Int)+(k:Int)) om om,show (h:Int)+(k:Int)=((h+k:Nat):Int) by omega,brd om,brd om,rF om,obs,Int.toNat_natCast,NX om (by simp;omega),
   aa _ om om,cm hk]
  simp [Nat.add_assoc]) (by
  simp only [fy]
  rw [brn om,decide_eq_false om,List.take_length,show n-(h+priv.length)=n-h-priv.length by omega,List.append_assoc])
 simpa using key
theorem YF {s:System} (h:ne s=true) {pub priv:List Int} (h1:pub.length+1≤ew s) (h2:priv.length≤ew s):rg s pub priv=some (yO (ew s) (2^s.Cols.toNat) pub priv):=by
 obtain ⟨c1,c2,c3⟩:=uS h
 have hh:=HU h
 have hb:=Do s.Cols.toNat c2
 unfold rg
 have e:IntKind.wrap .u64 (IntKind.wrap .i64 (s.Cols-1))=((s.Cols.toNat-1:Nat):Int):=by
  rw [aa _ om om,cN _ om om];omega
 rw [e,brd om,Nx om]
 have e2:IntKind.wrap .i64 (2*((2^(s.Cols.toNat-1):Nat):Int))=((2^s.Cols.toNat:Nat):Int):=by
  have:2^(s.Cols.toNat-1)=ew s:=rfl
  rw [this,aa _ om om];omega
 rw [e2,Ay om om om,Int.toNat_natCast,brd (by rw [List.length_replicate];omega),eu (by rw [List.length_replicate];omega),b7Q om om,obs]
 dsimp only
 have e3:1::pub++List.replicate (2^s.Cols.toNat-1-pub.length) (0:Int)=(1::pub++List.replicate (ew s-1-pub.length) 0)++List.replicate (2^s.Cols.toNat-ew s) 0:=by
  rw [List.append_assoc,List.replicate_append_replicate]
  congr 2;omega
 have e4:2^(s.Cols.toNat-1)=ew s:=rfl
 rw [e3,e4,b6P (by simp;omega) om om om,obs,yO]
theorem a54 {l:List Int} (h:l.length≤1000000):Q3 l=some (l.map eN):=by
 unfold Q3
 have key:Loop (pq l ((l.length:Nat):Int)) ([],0)=some (l.map eN,(l.length:Int),false):=
  aA (fun k=>((l.take k).map eN,(k:Int))) l.length (fun k hk=>by
   simp only [pq]
   rw [brd om,bO hk,obs,aC (by simp only [List.length_append,List.length_map,List.length_take,List.length_singleton];omega),aa _ om om,cm hk,List.map_append]
   rfl) (by
   simp only [pq]
   rw [brn om,decide_eq_false om,List.take_length])
 rw [key];rfl
theorem a6f {l:List Int} {n:Nat} (h:l.length≤n) (hn:n≤1000000):yF l (n:Int)=some (l.map eN++List.replicate (n-l.length) e0):=by
 unfold yF
 rw [Ay om om om,Int.toNat_natCast,UU (step:=pX l) (f:=oz) (g:=eN) om (fun x _=>rfl) (fun l i=>rfl) h,obs];rfl
theorem a44 {h n:Nat} {pub priv:List Int} (h1:M7 pub) (h2:M7 priv):M7 (yO h n pub priv):=by
 intro x hx
 simp only [yO,List.mem_append,List.mem_cons,List.mem_replicate] at hx
 rcases hx with ((rfl|hx)|⟨_,rfl⟩)|hx|⟨_,rfl⟩
 ·exact b1Z
 ·exact h1 x hx
 ·exact b7t
 ·exact h2 x hx
 ·exact b7t
theorem Tg {l:List Int} (h:M7 l):cE (l.map eN):=cE.map l fun x hx=>a3p (h x hx)
def b44 (s:System) (pub:List Int) (pt:List Ext):Ext:=Sv (((yO (ew s) (2^s.Cols.toNat) pub []).take (ew s)).map eN) (eqT pt)
theorem S7 {s:System} (h:ne s=true) {pub:List Int} {pt:List Ext} (h1:pub.length+1≤ew s) (hf:M7 pub) (hp:cE pt) (hl:pt.length+1=s.Cols.toNat):uw s pub pt=some (b44 s pub pt):=by
 obtain ⟨c1,c2,c3⟩:=uS h
 have hh:=HU h
 have hb:=Do s.Cols.toNat c2
 have hv:(yO (ew s) (2^s.Cols.toNat) pub []).length=2^s.Cols.toNat:=Zd h1 (by simp) om
 have hz:M7 (yO (ew s) (2^s.Cols.toNat) pub []):=a44 hf (fun x hx=>by cases hx)
 unfold uw
 rw [YY h h1 (by simp),obs,TX h,obs,fK om om om,obs]
 have e:((yO (ew s) (2^s.Cols.toNat) pub []).drop (Int.toNat 0)).take (((ew s:Nat):Int).toNat-Int.toNat 0)=(yO (ew s) (2^s.Cols.toNat) pub []).take (ew s):=rfl
 have hel:=yU pt
 have hpl:pt.length=s.Cols.toNat-1:=by omega
 have hq:2^pt.length=ew s:=by rw [hpl];rfl
 rw [e,a54 (by rw [List.length_take];omega),obs,z8 hp om,obs,
  PD (Tg fun x hx=>hz x (List.mem_of_mem_take hx)) (Ub _) (by rw [List.length_map,List.length_take];omega) (by rw [List.length_map,List.length_take];omega)]
 rfl
theorem Zo {s:System} (h:ne s=true) {pub:List Int} {pt:List Ext} (h1:pub.length+1≤ew s) (hf:M7 pub) (hp:cE pt) (hl:pt.length+1=s.Cols.toNat):ru s pub pt=some (b44 s pub pt):=by
 obtain ⟨c1,c2,c3⟩:=uS h
 have hh:=HU h
 have hb:=Do s.Cols.toNat c2
 have hv:(yO (ew s) (2^s.Cols.toNat) pub []).length=2^s.Cols.toNat:=Zd h1 (by simp) om
 have hz:M7 (yO (ew s) (2^s.Cols.toNat) pub []):=a44 hf (fun x hx=>by cases hx)
 unfold ru
 have e1:IntKind.wrap .u64 (IntKind.wrap .i64 (s.Cols-1))=((s.Cols.toNat-1:Nat):Int):=by
  rw [aa _ om om,cN _ om om];omega
 have e2:aD .i64 1 ((s.Cols.toNat-1:Nat):Int)=(ew s:Int):=Nx om
 rw [YF h h1 (by simp),obs,e1,brd om,e2,fK om om om,obs,brd om]
 have e:((yO (ew s) (2^s.Cols.toNat) pub []).drop (Int.toNat 0)).take (((ew s:Nat):Int).toNat-Int.toNat 0)=(yO (ew s) (2^s.Cols.toNat) pub []).take (ew s):=rfl
 have hpl:pt.length=s.Cols.toNat-1:=by omega
 have hq:2^pt.length=ew s:=by rw [hpl];rfl
 have hlt:((yO (ew s) (2^s.Cols.toNat) pub []).take (ew s)).length=ew s:=by rw [List.length_take];omega
 rw [e,a6f om om,obs,hlt,Nat.sub_self,List.replicate_zero,List.append_nil,
  a37 (Tg fun x hx=>hz x (List.mem_of_mem_take hx)) hp om (by rw [List.length_map];omega)]
 rfl
theorem a3n {s:System} (h:ne s=true):0≤s.Publics∧s.Publics.toNat+1≤ew s:=by
 obtain ⟨c1,c2,c3⟩:=uS h
 have h0:=h
 unfold ne at h0
 simp only [Bool.and_eq_true,decide_eq_true_eq] at h0
 obtain ⟨_,_,h3,_⟩:=h0
 have e:aD .i64 1 (s.Cols-1)=(ew s:Int):=by
  rw [show s.Cols-1=((s.Cols.toNat-1:Nat):Int) by omega,Nx om];rfl
 rw [e] at h3
 omega
end Go.AI.Fn
set_option linter.unusedVariables false
namespace Go.AI.Fn
end Go.AI.Fn
set_option linter.unusedVariables false
set_option linter.unusedSimpArgs false
namespace Go.AI.Fn
end Go.AI.Fn
set_option linter.unusedVariables false
set_option linter.unusedSimpArgs false
namespace Go.AI.Fn
def kvv (T:List (List K)):List (List Ext):=T.map kv
theorem Wo (T:List (List K)):(kvv T).length=T.length:=by simp [kvv]
theorem UV {T:List (List K)} {j:Nat} (h:j<T.length):atL (kvv T) (j:Int)=some (kv (T.getD j [])):=by rw [bO (by rw [Wo];exact h)];simp [kvv,h]
structure OkT (kind n:Nat) (T:List (List K)):Prop where
 kd:kind=1∨kind=2
 len:T.length=2*kind
 tab: ∀i,i<T.length→(T.getD i []).length=n
theorem OkT.bd {kind n:Nat} {T:List (List K)} (h:OkT kind (2*n) T) (r:K):OkT kind n (bdK r T):=⟨h.kd,by simp [bdK,h.len],fun i hi=>by
 rw [b2k]
 exact a3F r _ n (h.tab i (by simpa [bdK] using hi))⟩
variable {kind n:Nat} {T:List (List K)}
theorem Uy {v:List K} (hk:kind=1∨kind=2) (hv:v.length=2*kind):tN (kind:Int) (kv v)=some (cmK kind v).1:=by
 unfold tN cmK
 have k0:=sq (l:=v) (j:=0) om
 have k1:=sq (l:=v) (j:=1) om
 rw [show ((0:Nat):Int)=0 from rfl] at k0
 rw [show ((1:Nat):Int)=1 from rfl] at k1
 rcases hk with rfl|rfl
 ·rw [bre om,k0,obs,k1,obs,dw (Subtype.property _) (Subtype.property _),if_pos rfl];rfl
 ·have k2:=sq (l:=v) (j:=2) om
  have k3:=sq (l:=v) (j:=3) om
  rw [show ((2:Nat):Int)=2 from rfl] at k2
  rw [show ((3:Nat):Int)=3 from rfl] at k3
  rw [Pu om,k0,obs,k1,obs,k2,obs,dw (Subtype.property _) (Subtype.property _),obs,k3,obs,nk (nC _ _) (Subtype.property _),obs,dw (Subtype.property _) (um _ _),if_neg (by decide)];rfl
theorem V6 {v:List K} (hk:kind=1∨kind=2) (hv:v.length=2*kind):kY (kind:Int) (kv v)=some (cmK kind v).1:=by
 unfold kY cmK
 have k0:=sq (l:=v) (j:=0) om
 have k1:=sq (l:=v) (j:=1) om
 rw [show ((0:Nat):Int)=0 from rfl] at k0
 rw [show ((1:Nat):Int)=1 from rfl] at k1
 rcases hk with rfl|rfl
 ·rw [bre om,k0,obs,k1,obs,dl (Subtype.property _) (Subtype.property _),if_pos rfl];rfl
 ·have k2:=sq (l:=v) (j:=2) om
  have k3:=sq (l:=v) (j:=3) om
  rw [show ((2:Nat):Int)=2 from rfl] at k2
  rw [show ((3:Nat):Int)=3 from rfl] at k3
  rw [Pu om,k0,obs,k1,obs,k2,obs,dl (Subtype.property _) (Subtype.property _),obs,k3,obs,E8 (nC _ _) (Subtype.property _),obs,dl (Subtype.property _) (um _ _),if_neg (by decide)];rfl
theorem vg (hk:kind=1∨kind=2):nl (kind:Int)=some ((kind+1:Nat):Int):=by
 unfold nl
 rw [Dy,obs,decide_eq_true om,decide_eq_true om,Bool.and_self,Bool.not_true,aw,aa _ om om];rfl
end Go.AI.Fn
set_option linter.unusedVariables false
set_option linter.unusedSimpArgs false
namespace Go.AI.Fn
theorem a9g (a:Int): ∀n:Nat,K.n (a^n)=K.n a^n
 |0=>by rw [Int.pow_zero,pw0];rfl
 |n+1=>by rw [Int.pow_succ,K.n_mul,a9g a n,pwS]
theorem b60 (a:Int):K.n (a%2130706433)=K.n a:=K.ext (by show eN (a%2130706433%2130706433)=eN (a%2130706433);rw [Int.emod_emod])
theorem c0a (a:Int) (n:Nat):kF (pF a n)=kF a^n:=by rw [kF,pF,b60,a9g];rfl
theorem a31 (a:Int):kF (iF a)=kF a^2130706431:=by rw [iF,c0a]
theorem a6w (a b:Int):kF (iF (mF a b))=kF (iF a)*kF (iF b):=by rw [a31,a31,a31,b0T,a8d]
theorem a4A:kF (iF 1)=1:=by rw [a31,show kF 1=1 from rfl,a9K]
def lnI (i:Nat) (x v:K):Nat→K
 |0=>v
 |k+1=>if k=i then lnI i x v k else lnI i x v k*(x-kF (k:Int))*kF (iF (sF (i:Int) (k:Int)))
def lnP (i:Nat) (x v:K):Nat→K
 |0=>v
 |k+1=>if k=i then lnP i x v k else lnP i x v k*(x-kF (k:Int))
def lnD (i:Nat):Nat→Int
 |0=>1
 |k+1=>if k=i then lnD i k else mF (lnD i k) (sF (i:Int) (k:Int))
theorem a0U (i:Nat): ∀k,okF (lnD i k)
 |0=>b1Z
 |k+1=>by unfold lnD;split;exact a0U i k;exact lY _ _
theorem b5B (i:Nat) (x v:K): ∀k,lnI i x v k=lnP i x v k*kF (iF (lnD i k))
 |0=>by rw [lnI,lnP,lnD,a4A];exact kg
 |k+1=>by
  have ih:=b5B i x v k
  unfold lnI lnP lnD
  split
  ·exact ih
  ·rw [a6w,ih];exact kg
def lnK (vs:List K) (x:K):K:=YS vs.length fun i=>lnI i x (vs.getD i 0) vs.length
theorem a83 {x:Nat} (h:x≤10):Ext.mk (x:Int) 0=(kF (x:Int)).1:=(z9 ⟨by omega,by omega⟩).symm
theorem L7 {vs:List K} (x:K) (hl:vs.length≤8):xK (kv vs) x.1=some (lnK vs x).1:=by
 unfold xK
 have key:=aA (step:=jq (kv vs) (kv vs) (vs.length:Int) x.1.A x.1.B 0 0) (fun j=>((j:Int),(YS j fun i=>lnI i x (vs.getD i 0) vs.length).1.A,(YS j fun i=>lnI i x (vs.getD i 0) vs.length).1.B)) vs.length (e:=((vs.length:Int),false,(lnK vs x).1.A,(lnK vs x).1.B)) (fun j hj=> ?_) ?_
 ·have key':Loop (jq (kv vs) (kv vs) (vs.length:Int) x.1.A x.1.B 0 0) (0,0,0)=_:=key
  rw [aP,key'];rfl
 ·simp only [jq]
  have inner: ∀c9 c10 c11 c12 c13 c14,Loop (jt (kv vs) (j:Int) (kv vs) (vs.length:Int) (j:Int) (((kv vs).length:Nat):Int) x.1.A x.1.B c9 c10 c11 c12 c13 c14) (0,(vs.getD j 0).1.A,(vs.getD j 0).1.B)=some ((vs.length:Int),false,(lnI j x (vs.getD j 0) vs.length).1.A,(lnI j x (vs.getD j 0) vs.length).1.B):=fun c9 c10 c11 c12 c13 c14=>by
   refine aA (step:=jt (kv vs) (j:Int) (kv vs) (vs.length:Int) (j:Int) (((kv vs).length:Nat):Int) x.1.A x.1.B c9 c10 c11 c12 c13 c14) (fun k=>((k:Int),(lnI j x (vs.getD j 0) k).1.A,(lnI j x (vs.getD j 0) k).1.B)) vs.length (fun k hk=> ?_) ?_
   ·simp only [jt,aP]
    rw [brd om]
    by_cases c:k=j
    ·rw [cZ om,aa _ om om,lnI,if_pos c];rfl
    ·rw [brb om,a83 om,show Ext.mk x.1.A x.1.B=x.1 from rfl,nk x.2 (Subtype.property _),obs,dw (Subtype.property (lnI j x (vs.getD j 0) k)) (um _ _),obs,OD ⟨by omega,by omega⟩ ⟨by omega,by omega⟩,obs,zJ (b5u _ _),obs,w5 (nC _ _) (show okF (iF (sF (j:Int) (k:Int))) from Nl _ _),obs,aa _ om om,lnI,if_neg c,a3f, ←z9 (a:=iF (sF (j:Int) (k:Int))) (Nl _ _)];rfl
   ·simp only [jt,aP]
    rw [brn om,decide_eq_false om]
  rw [brd om,sq hj,obs,inner,obs,j7 (Subtype.property (YS j fun i=>lnI i x (vs.getD i 0) vs.length)) (Subtype.property (lnI j x (vs.getD j 0) vs.length)),obs,aa _ om om];rfl
 ·simp only [jq]
  rw [brn om,decide_eq_false om];rfl
theorem Tw {vs:List K} (x:K) (hl:vs.length≤8):tT (kv vs) x.1=some (lnK vs x).1:=by
 unfold tT
 have key:=aA (step:=ia (kv vs) x.1.A x.1.B 0 0) (fun j=>((j:Int),(YS j fun i=>lnI i x (vs.getD i 0) vs.length).1.A,(YS j fun i=>lnI i x (vs.getD i 0) vs.length).1.B)) vs.length (e:=((vs.length:Int),false,(lnK vs x).1.A,(lnK vs x).1.B)) (fun j hj=> ?_) ?_
 ·have key':Loop (ia (kv vs) x.1.A x.1.B 0 0) (0,0,0)=_:=key
  rw [key'];rfl
 ·simp only [ia,aP]
  have inner: ∀c9 c10 c11 c12,Loop (it (kv vs) (j:Int) x.1.A x.1.B c9 c10 c11 c12) (1,0,(vs.getD j 0).1.A,(vs.getD j 0).1.B)=some (lnD j vs.length,(vs.length:Int),false,(lnP j x (vs.getD j 0) vs.length).1.A,(lnP j x (vs.getD j 0) vs.length).1.B):=fun c9 c10 c11 c12=>by
   refine aA (step:=it (kv vs) (j:Int) x.1.A x.1.B c9 c10 c11 c12) (fun k=>(lnD j k,(k:Int),(lnP j x (vs.getD j 0) k).1.A,(lnP j x (vs.getD j 0) k).1.B)) vs.length (fun k hk=> ?_) ?_
   ·simp only [it,aP]
    rw [brd om]
    by_cases c:k=j
    ·rw [cZ om,aa _ om om,lnP,lnD,if_pos c,if_pos c];rfl
    ·rw [brb om,Ib,obs,show eN (k:Int)=(kF (k:Int)).1 from a83 om,show Ext.mk x.1.A x.1.B=x.1 from rfl,E8 x.2 (Subtype.property _),obs,dl (Subtype.property (lnP j x (vs.getD j 0) k)) (um _ _),obs,Og ⟨by omega,by omega⟩ ⟨by omega,by omega⟩,obs,qR (a0U j k) (b5u _ _),obs,aa _ om om,lnP,lnD,if_neg c,if_neg c];rfl
   ·simp only [it,aP]
    rw [brn om,decide_eq_false om]
  unfold jh
  rw [brd om,sq hj,obs,inner,obs]
  dsimp only
  rw [zm (a0U j _),obs,obs,Ib,obs, ←z9 (a:=iF (lnD j vs.length)) (Nl _ _),dl (Subtype.property (lnP j x (vs.getD j 0) vs.length)) (Subtype.property _),obs,
   show eM (Ext.mk (lnP j x (vs.getD j 0) vs.length).1.A (lnP j x (vs.getD j 0) vs.length).1.B) (kF (iF (lnD j vs.length))).1=(lnI j x (vs.getD j 0) vs.length).1 from congrArg Subtype.val (b5B j x _ _).symm,
   iI (Subtype.property (YS j fun i=>lnI i x (vs.getD i 0) vs.length)) (Subtype.property (lnI j x (vs.getD j 0) vs.length)),obs,aa _ om om];rfl
 ·simp only [ia,aP]
  rw [brn om,decide_eq_false om];rfl
end Go.AI.Fn
set_option linter.unusedVariables false
set_option linter.unusedSimpArgs false
namespace Go.AI.Fn
def tkM (s:Source) (t:List UInt8):Source:=⟨s.Script,s.At,H (s.State++(b0W++(eJ t.length++t))),0⟩
theorem b7J {s:Source} (t:List UInt8) (h:BE s):BE (tkM s t):=⟨h.1,h.2,AO _,h.4,h.5,by simp [tkM],by simp [tkM]⟩
def beN (l:List UInt8):Int:=l.foldl (fun n c=>n*256+(c.toNat:Int)) 0
def a5k (l:List UInt8):Int:=beN l%2130706433
def rJ (s:Source):Source×Ext:=
 if s.Script.length=0 then (⟨s.Script,s.At,s.State,s.Count+1⟩,⟨a5k ((H (s.State++(Uv++eJ s.Count))).take 8),a5k (((H (s.State++(Uv++eJ s.Count))).drop 8).take 8)⟩)
 else (⟨s.Script,s.At+1,s.State,s.Count⟩,s.Script.getD (s.At%(s.Script.length:Int)).toNat e0)
theorem a3Y (l:List UInt8):okF (a5k l):=ji _
theorem XJ {s:Source} (h:BE s):okE (rJ s).2:=by
 unfold rJ
 split
 ·exact ⟨a3Y _,a3Y _⟩
 ·exact h.scr.getD _
theorem a6d {s:Source} (h:BE s) (ha:s.At<1000000) (hc:s.Count<1000000):BE (rJ s).1:=by
 unfold rJ
 split
 ·exact ⟨h.1,h.2,h.3,h.4,h.5,by have:=h.6;simp;omega,by simp;omega⟩
 ·exact ⟨h.1,h.2,h.3,by have:=h.4;simp;omega,by simp;omega,h.6,h.7⟩
theorem rb {s:Source} {t:List UInt8} (hs:s.State.length=32) (ht:t.length≤1000000):hU s t=some (tkM s t):=by
 unfold hU
 have h4:=cg ((t.length:Nat):Int)
 rw [aC (by simp only [List.length_cons,List.length_nil];omega),vi,obs,aC (by simp only [List.length_append,List.length_cons,List.length_nil];omega),
  aC (by simp only [List.length_append,List.length_cons,List.length_nil];omega),oN (by simp only [List.length_append,List.length_cons,List.length_nil];omega),obs,tkM]
 simp [b0W]
theorem Pv (l:List UInt8) (c:UInt8):beN (l++[c])=beN l*256+(c.toNat:Int):=by simp [beN,List.foldl_append]
theorem Qh {t:List UInt8} (h:t.length=8):oW t=some (a5k t):=by
 unfold oW
 have key:Loop (iL t) (0,0)=some (a5k t,8,false):=
  aA (fun k=>(beN (t.take k)%2130706433,(k:Int))) 8 (fun k hk=>by
   have hk':k<t.length:=by omega
   have hb:=o2 t[k]
   have hm:0≤beN (t.take k)%2130706433∧beN (t.take k)%2130706433<2130706433:=by omega
   simp only [iL]
   rw [brd om,bO hk',obs]
   simp (disch:=omega) only [aa,cn]
   rw [cm hk',Pv,mX1];rfl) (by
   simp only [iL]
   rw [brn (by decide),List.take_of_length_le om];rfl)
 rw [key];rfl
theorem SN {s:Source} (h:BE s):nA s=some (rJ s):=by
 have h1:=h.1
 have h3:=h.3
 have h4:=h.4
 have h5:=h.5
 have h6:=h.6
 have h7:=h.7
 unfold nA rJ
 by_cases hl:s.Script.length=0
 ·have hf:=cg s.Count
  rw [brn om,if_pos hl,aC (by simp only [List.length_cons,List.length_nil];omega),vi,obs,aC (by simp only [List.length_append,List.length_cons,List.length_nil];omega),oN (by simp only [List.length_append,List.length_cons,List.length_nil];omega),obs]
  have e:s.State++[100,114,97,119]++eJ s.Count=s.State++(Uv++eJ s.Count):=by simp [Uv]
  rw [e]
  have hh:=AO (s.State++(Uv++eJ s.Count))
  rw [fK om om om,obs,Qh (by simp;omega),obs,fK om om om,obs,Qh (by simp;omega),obs,aa _ om om]
  rfl
 ·have hr:=Int.emod_nonneg s.At (b:=(s.Script.length:Int)) om
  have hr2:=Int.emod_lt_of_pos s.At (b:=(s.Script.length:Int)) om
  rw [brd om,if_neg hl,brd om,cn _ _ h4,aa _ om om]
  have e:atL s.Script (s.At%(s.Script.length:Int))=some (s.Script.getD (s.At%(s.Script.length:Int)).toNat e0):=by
   have:=a3v (l:=s.Script) (k:=(s.At%(s.Script.length:Int)).toNat) om
   rwa [Int.toNat_of_nonneg hr] at this
  rw [e];rfl
structure Few (s:Source) (k:Int):Prop where
 ok:BE s
 a:s.At≤k
 c:s.Count≤k
theorem Few.mono {s:Source} {j k:Int} (h:Few s j) (hk:j≤k):Few s k:=⟨h.1,by have:=h.2;omega,by have:=h.3;omega⟩
theorem Few.take {s:Source} {k:Int} (h:Few s k) (t:List UInt8):Few (tkM s t) (k+1):=⟨b7J t h.1,by have:=h.2;simp [tkM];omega,by have:=h.3;have:=h.1.c0;simp [tkM];omega⟩
theorem Few.draw {s:Source} {k:Int} (h:Few s k) (hk:k<1000000):Few (rJ s).1 (k+1):=by
 have h2:=h.2
 have h3:=h.3
 refine ⟨a6d h.1 om om, ?_, ?_⟩<;>(unfold rJ;split<;>dsimp only<;>omega)
end Go.AI.Fn
set_option linter.unusedVariables false
set_option linter.unusedSimpArgs false
namespace Go.AI.Fn
theorem a4P {n:Int} (x:UInt8) (h0:0≤n) (h1:n<72057594037927936):wR .u64 (aD .u64 n 8) (IntKind.wrap .u64 (x.toNat:Int))=n*256+x.toNat:=by
 have hx:=o2 x
 have e1:aD .u64 n 8=n*256:=by
  have:n*2^(min (8:Int).toNat (IntKind.bits .u64))=n*256:=by
   have:(2:Int)^(min (8:Int).toNat (IntKind.bits .u64))=256:=by decide
   rw [this]
  unfold aD
  rw [this,cN _ om om]
 rw [e1,cN (x.toNat:Int) om om]
 unfold wR
 obtain ⟨m,rfl⟩:=Int.eq_ofNat_of_zero_le h0
 have e2:(BitVec.ofInt (IntKind.bits .u64) ((m:Int)*256)|||BitVec.ofInt (IntKind.bits .u64) (x.toNat:Int)).toNat=m*256+x.toNat:=by
  rw [BitVec.toNat_or,BitVec.toNat_ofInt,BitVec.toNat_ofInt]
  have b1:(((m:Int)*256)%((2^(IntKind.bits .u64):Nat):Int)).toNat=m<<<8:=by
   rw [show ((2^(IntKind.bits .u64):Nat):Int)=18446744073709551616 by decide,Nat.shiftLeft_eq];omega
  have b2:((x.toNat:Int)%((2^(IntKind.bits .u64):Nat):Int)).toNat=x.toNat:=by
   rw [show ((2^(IntKind.bits .u64):Nat):Int)=18446744073709551616 by decide];omega
  rw [b1,b2, ←Nat.shiftLeft_add_eq_or_of_lt (show x.toNat<2^8 by omega),Nat.shiftLeft_eq]
 rw [e2,cN _ om om]
 omega
theorem a1n: ∀(l:List UInt8) (k:Nat),k≤8→k≤l.length→0≤beN (l.take k)∧beN (l.take k)<256^k
 |l,0,_,_=>by simp [beN]
 |l,k+1,h,hl=>by
  have ⟨h0,h1⟩:=a1n l k om om
  have hb:=o2 l[k]
  rw [cm om,Pv]
  have:(256:Int)^(k+1)=256^k*256:=Int.pow_succ _ _
  rw [this]
  generalize (256:Int)^k=p at*
  omega
theorem c0H: ∀k:Nat,k<8→(256:Int)^k≤72057594037927936:=by decide
theorem LD {t:List UInt8} (h:t.length=8):yG t=some (a5k t):=by
 unfold yG
 have key:Loop (jp t ((t.length:Nat):Int)) (0,0)=some (beN t,(t.length:Int),false):=by
  have key:=aA (step:=jp t ((t.length:Nat):Int)) (fun k=>(beN (t.take k),(k:Int))) t.length (e:=(beN t,(t.length:Int),false)) (fun k hk=> ?_) ?_
  ·exact key
  ·have ⟨h0,h1⟩:=a1n t k om om
   have h2:=c0H k om
   simp only [jp]
   rw [brd om,bO hk,obs,a4P _ h0 om,aa _ om om,cm hk,Pv];rfl
  ·simp only [jp]
   rw [brn om,decide_eq_false om,List.take_length]
 have ⟨h0,h1⟩:=a1n t 8 om om
 rw [List.take_of_length_le om] at h0 h1
 rw [key,obs]
 dsimp only
 rw [cn _ _ h0,aa _ om om];rfl
theorem rd {s:Source} {t:List UInt8} (hs:s.State.length=32) (ht:t.length≤1000000):du t s=some (tkM s t):=by
 unfold du
 have hf:[s.State,[97,98,115,111,114,98],eJ ((t.length:Nat):Int),t].flatten=s.State++(b0W++(eJ t.length++t)):=by simp [b0W]
 rw [aC om,DY,obs,qU (by rw [hf];simp only [List.length_append,cg,b0W,List.length_cons,List.length_nil];omega) (by simp),obs,hf];rfl
theorem TD {s:Source} (h:BE s):fU s=some ((rJ s).2,(rJ s).1):=by
 have h1:=h.1
 have h3:=h.3
 have h4:=h.4
 have h5:=h.5
 have h6:=h.6
 have h7:=h.7
 unfold fU rJ
 by_cases hl:s.Script.length=0
 ·have hf:=cg s.Count
  have hh:=AO (s.State++(Uv++eJ s.Count))
  have e:[s.State,[100,114,97,119],eJ s.Count].flatten=s.State++(Uv++eJ s.Count):=by simp [Uv]
  rw [brn om,if_pos hl,aC om,DY,obs,qU (by rw [e];simp only [List.length_append,cg,Uv,List.length_cons,List.length_nil];omega) (by simp),obs,e,aC om,
   fK om om om,obs,LD (by simp;omega),obs,fK om om om,obs,LD (by simp;omega),obs,aa _ om om]
  rfl
 ·have hr:=Int.emod_nonneg s.At (b:=(s.Script.length:Int)) om
  have hr2:=Int.emod_lt_of_pos s.At (b:=(s.Script.length:Int)) om
  rw [brd om,if_neg hl,brd om,aa (s.At+1) om om,aa (s.At+1-1) om om,show s.At+1-1=s.At by omega,cn _ _ h4]
  have e:atL s.Script (s.At%(s.Script.length:Int))=some (s.Script.getD (s.At%(s.Script.length:Int)).toNat e0):=by
   have:=a3v (l:=s.Script) (k:=(s.At%(s.Script.length:Int)).toNat) om
   rwa [Int.toNat_of_nonneg hr] at this
  rw [e];rfl
def drS (s:Source):Nat→Source
 |0=>s
 |j+1=>(rJ (drS s j)).1
def drL (s:Source) (n:Nat):List Ext:=(List.range n).map fun j=>(rJ (drS s j)).2
theorem lh (s:Source) (n:Nat):(drL s n).length=n:=by simp [drL]
theorem DS {s:Source} {k:Int} (h:Few s k) (hk:k≤999890): ∀j:Nat,j≤100→Few (drS s j) (k+j)
 |0,_=>h.mono om
 |j+1,hj=>((DS h hk j om).draw om).mono om
theorem Qw {s:Source} {k:Int} (h:Few s k) (hk:k≤999890) {n:Nat} (hn:n≤100):cE (drL s n):=fun x hx=>by
 obtain ⟨j,hj,rfl⟩:=List.mem_map.1 hx
 have hj:=List.mem_range.1 hj
 exact XJ (DS h hk j om).1
theorem XZ (s:Source) (n:Nat):drL s (n+1)=drL s n++[(rJ (drS s n)).2]:=by simp [drL,List.range_succ]
theorem Hi {s:Source} {k:Int} (h:Few s k) (hk:k≤999890) {n:Nat} (hn:n≤100):gw (n:Int) s=some (drL s n,drS s n):=by
 unfold gw
 have key:=aA (step:=dv (n:Int)) (fun j=>(drL s j,(j:Int),(drS s j).Script,(drS s j).At,(drS s j).State,(drS s j).Count)) n (e:=(drL s n,(n:Int),false,(drS s n).Script,(drS s n).At,(drS s n).State,(drS s n).Count)) (fun j hj=> ?_) ?_
 ·have key':Loop (dv (n:Int)) ([],0,s.Script,s.At,s.State,s.Count)=_:=key
  rw [key'];rfl
 ·simp only [dv]
  rw [brd om,TD (DS h hk j om).1,obs,aC (by simp only [List.length_append,lh,List.length_singleton];omega),aa _ om om, ←XZ];rfl
 ·simp only [dv]
  rw [brn om,decide_eq_false om]
theorem JZ {s:Source} {k:Int} (h:Few s k) (hk:k≤999890) {n:Nat} (hn:n≤100):p6 s (n:Int)=some (drS s n,drL s n):=by
 unfold p6
 have key:=aA (step:=iq (n:Int) 0 [] 0) (fun j=>(drL s j,(j:Int),(drS s j).Script,(drS s j).At,(drS s j).State,(drS s j).Count)) n (e:=(drL s n,(n:Int),false,(drS s n).Script,(drS s n).At,(drS s n).State,(drS s n).Count)) (fun j hj=> ?_) ?_
 ·have key':Loop (iq (n:Int) 0 [] 0) ([],0,s.Script,s.At,s.State,s.Count)=_:=key
  rw [key'];rfl
 ·simp only [iq]
  rw [brd om,SN (DS h hk j om).1,obs,aC (by simp only [List.length_append,lh,List.length_singleton];omega),aa _ om om, ←XZ];rfl
 ·simp only [iq]
  rw [brn om,decide_eq_false om]
theorem Z7 {s:Source} (h:s.Script.length≤1000000):jy s=some s:=by
 unfold jy en
 rw [aC om];rfl
variable {s:Source} {k:Int}
theorem b9S {a b c:Int} (h:a≤c) (g:b≤c):mx a b≤c:=by unfold mx;split<;>assumption
def plM (l:List Ext) (m:Int):List Int:=l.map fun x=>x.A%m
theorem ZP {l:List Ext} {m:Int} (hl:l.length≤1000) (ok:cE l) (hm:0<m):BG l m=some (plM l m):=by
 unfold BG
 have key:Loop (jk m l ((l.length:Nat):Int)) ([],0)=some (plM l m,(l.length:Int),false):=
  aA (step:=jk m l ((l.length:Nat):Int)) (fun j=>(plM (l.take j) m,(j:Int))) l.length (fun j hj=>by
   simp only [jk]
   rw [brd om,bO hj,obs,brd om,aC (by simp only [List.length_append,plM,List.length_map,List.length_take,List.length_singleton];omega),aa _ om om,cn _ _ (ok.get hj).1.1,cm hj]
   simp only [plM,List.map_append,List.map_cons,List.map_nil,iJ]) (by
   simp only [jk]
   rw [brn om,decide_eq_false om,List.take_length])
 rw [key];rfl
theorem YH {l:List Ext} {m:Int} {c c8:List Ext} {c2 c4 c5 c7 c9 c11:Int} {c3 c6 c10:List UInt8} (hl:l.length≤1000) (ok:cE l) (hm:0<m):Loop (fx (l.length:Int) m l c c2 c3 c4 c5 c6 c7 c8 c9 c10 c11) ([],0)=some (plM l m,(l.length:Int),false):=
 aA (step:=fx (l.length:Int) m l c c2 c3 c4 c5 c6 c7 c8 c9 c10 c11) (fun j=>(plM (l.take j) m,(j:Int))) l.length (fun j hj=>by
  simp only [fx]
  rw [brd om,bO hj,obs,brd om,aC (by simp only [List.length_append,plM,List.length_map,List.length_take,List.length_singleton];omega),aa _ om om,cn _ _ (ok.get hj).1.1,cm hj]
  simp only [plM,List.map_append,List.map_cons,List.map_nil,iJ]) (by
  simp only [fx]
  rw [brn om,decide_eq_false om,List.take_length])
end Go.AI.Fn
set_option linter.unusedVariables false
set_option linter.unusedSimpArgs false
namespace Go.AI.Fn
def toK (x:Ext):K:=⟨⟨x.A%2130706433,x.B%2130706433⟩,⟨ji _,ji _⟩⟩
theorem jo {x:Ext} (h:okE x):(toK x).1=x:=K9 (D7 h.1) (D7 h.2)
theorem J3 (l:List Ext):(l.flatMap e8).length=8*l.length:=by
 induction l with
 |nil=>rfl
 |cons x l ih=>simp only [List.flatMap_cons,List.length_append,ih,b6o,List.length_cons];omega
def rsM (s:Source) (g:List K):Source:=tkM s ((kv g).flatMap e8)
def rdM (s:Source) (g:List K):K:=toK (rJ (rsM s g)).2
def nsM (s:Source) (g:List K):Source:=(rJ (rsM s g)).1
theorem H0 {s:Source} {k:Int} (h:Few s k) (hk:k≤999990) (g:List K):Few (nsM s g) (k+2):=by
 have:=(h.take ((kv g).flatMap e8)).draw om
 rw [show k+1+1=k+2 by omega] at this;exact this
theorem b1y {s:Source} {k:Int} (h:Few s k) (g:List K):(rdM s g).1=(rJ (rsM s g)).2:=jo (XJ (h.take _).1)
theorem Po {s:Source} (h:BE s) {g:List K} (hl:g.length≤1000):bu (kv g) s=some (rsM s g):=by
 have e:=J3 (kv g)
 rw [aP] at e
 unfold bu
 rw [FA (by rw [aP];omega),obs,rd h.3 om];rfl
theorem Pg {s:Source} (h:BE s) {g:List K} (hl:g.length≤1000):iH s (kv g)=some (rsM s g):=by
 have e:=J3 (kv g)
 rw [aP] at e
 unfold iH
 rw [PS (by rw [aP];omega),obs,rb h.3 om];rfl
theorem b5n {s:Source} {k:Int} (h:Few s k) (g:List K):fU (rsM s g)=some ((rdM s g).1,nsM s g):=by
 rw [TD (s:=rsM s g) (h.take _).1,b1y h];rfl
theorem b5x {s:Source} {k:Int} (h:Few s k) (g:List K):nA (rsM s g)=some (nsM s g,(rdM s g).1):=by
 rw [SN (s:=rsM s g) (h.take _).1,b1y h];rfl
variable {kind:Nat} {bh:List K→Source→Source}
theorem b3r (v:Nat):2^(v+1)=2*2^v:=by rw [Nat.pow_succ,Nat.mul_comm]
theorem OkT.up {v:Nat} {T:List (List K)} (h:OkT kind (2^(v+1)) T) (r:K):OkT kind (2^v) (bdK r T):=by
 rw [b3r] at h;exact h.bd r
noncomputable instance b9O:DecidableEq K:=fun a b=>Classical.propDecidable _
noncomputable def vfM (kind:Nat) (bv:Nat→Source→Source):List (List K)→Nat→K→Source→Int×List K×K×Source
 |[],i,c,s=>(0,[],c,s)
 |g::R,i,c,s=>if g.length=kind+2 then (if g.getD 0 0+g.getD 1 0=c then
   ((vfM kind bv R (i+1) (lnK g (rdM s g)) (bv i (nsM s g))).1,rdM s g::(vfM kind bv R (i+1) (lnK g (rdM s g)) (bv i (nsM s g))).2.1,(vfM kind bv R (i+1) (lnK g (rdM s g)) (bv i (nsM s g))).2.2) else (10,[],c,s)) else (18,[],c,s)
def bv0:Nat→Source→Source:=fun _ s=>s
def b8I (bv:Nat→Source→Source):Prop:= ∀i s k,Few s k→k≤999990→Few (bv i s) (k+1)
theorem b1x:b8I bv0:=fun i s k h _=>h.mono om
variable {bv:Nat→Source→Source}
theorem NE (hb:b8I bv): ∀(R:List (List K)) (i:Nat) (c:K) (s:Source) (k:Int),Few s k→k+3*R.length≤999990→Few (vfM kind bv R i c s).2.2.2 (k+3*R.length)
 |[],i,c,s,k,h,hk=>by rw [List.length_nil,show k+3*((0:Nat):Int)=k by omega];exact h
 |g::R,i,c,s,k,h,hk=>by
  rw [List.length_cons] at hk ⊢
  rw [vfM]
  by_cases h1:g.length=kind+2
  ·by_cases h2:g.getD 0 0+g.getD 1 0=c
   ·rw [if_pos h1,if_pos h2]
    have:=NE hb R (i+1) (lnK g (rdM s g)) _ _ (hb i _ _ (H0 h om g) om) om
    rw [show k+2+1+3*(R.length:Int)=k+3*((R.length+1:Nat):Int) by omega] at this
    exact this
   ·rw [if_pos h1,if_neg h2];exact h.mono om
  ·rw [if_neg h1];exact h.mono om
theorem O6: ∀(R:List (List K)) (i:Nat) (c:K) (s:Source),(vfM kind bv R i c s).1=0→(vfM kind bv R i c s).2.1.length=R.length
 |[],i,c,s,h=>rfl
 |g::R,i,c,s,h=>by
  rw [vfM] at h ⊢
  by_cases h1:g.length=kind+2
  ·by_cases h2:g.getD 0 0+g.getD 1 0=c
   ·rw [if_pos h1,if_pos h2] at h ⊢
    simp only [List.length_cons];rw [O6 R _ _ _ h]
   ·rw [if_pos h1,if_neg h2] at h;exact absurd (show (10:Int)=0 from h) (by decide)
  ·rw [if_neg h1] at h;exact absurd (show (18:Int)=0 from h) (by decide)
theorem c0n (a b:K):(a.1.A==b.1.A&&a.1.B==b.1.B)=decide (a=b):=by
 by_cases h:a=b
 ·subst h;simp
 ·rw [decide_eq_false h]
  refine Bool.eq_false_iff.2 fun e=>h ?_
  simp only [Bool.and_eq_true,beq_iff_eq] at e
  exact K.ext (K9 e.1 e.2)
theorem Ec {α:Type} (a b:K) (x y:α):br (a.1.A==b.1.A) (br (a.1.B==b.1.B) x y) y=if a=b then x else y:=by
 have:=c0n a b
 cases h1:(a.1.A==b.1.A)<;>cases h2:(a.1.B==b.1.B)<;>rw [h1,h2] at this<;>simp at this<;>simp [this,br]
theorem atK {l:List K} {j:Nat} {i:Int} (hi:i=(j:Int)) (h:j<l.length):atL (kv l) i=some (l.getD j 0).1:=by subst hi;exact sq h
theorem Tp {c7 c8:Int} (hkd:kind=1∨kind=2): ∀(R pre:List (List K)) (c:K) (s:Source) (k:Int) (P:List Ext),Few s k→k+3*R.length≤999990→P.length+R.length≤999990→pre.length+R.length≤999990→
 ((vfM kind bv0 R pre.length c s).1=0→Loop (aG (kind:Int) (kvv (pre++R)) ((pre++R).length:Int) c7 c8) (P,(pre.length:Int),s.Script,s.At,s.State,s.Count,c.1.A,c.1.B)=
   some (.inr (P++kv (vfM kind bv0 R pre.length c s).2.1,((pre++R).length:Int),false,(vfM kind bv0 R pre.length c s).2.2.2.Script,(vfM kind bv0 R pre.length c s).2.2.2.At,(vfM kind bv0 R pre.length c s).2.2.2.State,(vfM kind bv0 R pre.length c s).2.2.2.Count,
    (vfM kind bv0 R pre.length c s).2.2.1.1.A,(vfM kind bv0 R pre.length c s).2.2.1.1.B)))∧
 ((vfM kind bv0 R pre.length c s).1≠0→ ∃P' A B,Loop (aG (kind:Int) (kvv (pre++R)) ((pre++R).length:Int) c7 c8) (P,(pre.length:Int),s.Script,s.At,s.State,s.Count,c.1.A,c.1.B)=
   some (.inl (P',(vfM kind bv0 R pre.length c s).1,(vfM kind bv0 R pre.length c s).2.2.2.Script,(vfM kind bv0 R pre.length c s).2.2.2.At,(vfM kind bv0 R pre.length c s).2.2.2.State,(vfM kind bv0 R pre.length c s).2.2.2.Count,A,B)))
 |[],pre,c,s,k,P,hf,hk,hP,hp=>by
  refine ⟨fun _=>bA ?_,fun h=>absurd rfl h⟩
  simp only [aG,List.append_nil]
  rw [brn om,decide_eq_false om]
  simp [vfM,kv]
 |g::R,pre,c,s,k,P,hf,hk,hP,hp=>by
  rw [List.length_cons] at hk hP hp
  have hat:atL (kvv (pre++g::R)) (pre.length:Int)=some (kv g):=by rw [UV (by simp)];simp
  have hlt:(pre.length:Int)<((pre++g::R).length:Int):=by rw [List.length_append,List.length_cons];omega
  rw [vfM]
  by_cases h1:g.length=kind+2
  ·by_cases h2:g.getD 0 0+g.getD 1 0=c
   ·rw [if_pos h1,if_pos h2]
    have ih:=Tp (c7:=c7) (c8:=c8) hkd R (pre++[g]) (lnK g (rdM s g)) (nsM s g) (k+2) (P++[(rdM s g).1]) (H0 hf om g) om (by rw [List.length_append,List.length_singleton];omega) (by rw [List.length_append,List.length_singleton];omega)
    rw [List.append_assoc,List.singleton_append,List.length_append,List.length_singleton] at ih
    have step:aG (kind:Int) (kvv (pre++g::R)) ((pre++g::R).length:Int) c7 c8 (P,(pre.length:Int),s.Script,s.At,s.State,s.Count,c.1.A,c.1.B)=
     some (.inl (P++[(rdM s g).1],((pre.length+1:Nat):Int),(nsM s g).Script,(nsM s g).At,(nsM s g).State,(nsM s g).Count,(lnK g (rdM s g)).1.A,(lnK g (rdM s g)).1.B)):=by
     simp only [aG]
     rw [brd hlt,hat,obs,vg hkd,obs,aa _ om om,cZ (by rw [aP];omega),atK (i:=0) (j:=0) rfl om,obs,atK (i:=1) (j:=1) rfl om,obs,j7 (Subtype.property _) (Subtype.property _),obs]
     rw [show eA (g.getD 0 0).1 (g.getD 1 0).1=c.1 from congrArg Subtype.val h2,bre rfl,bre rfl,show Source.mk s.Script s.At s.State s.Count=s from rfl,Po hf.1 om,obs,b5n hf,obs]
     dsimp only
     rw [L7 _ om,obs,aC (by rw [List.length_append,List.length_singleton];omega),aa _ om om];rfl
    refine ⟨fun h=> ?_,fun h=> ?_⟩
    ·rw [bn step,ih.1 h]
     simp [kv,bv0]
    ·obtain ⟨P',A,B,e⟩:=ih.2 h
     exact ⟨P',A,B,by rw [bn step,e];rfl⟩
   ·rw [if_pos h1,if_neg h2]
    refine ⟨fun h=>absurd (show (10:Int)=0 from h) (by decide),fun _=>⟨P,c.1.A,c.1.B,bA ?_⟩⟩
    simp only [aG]
    rw [brd hlt,hat,obs,vg hkd,obs,aa _ om om,cZ (by rw [aP];omega),atK (i:=0) (j:=0) rfl om,obs,atK (i:=1) (j:=1) rfl om,obs,j7 (Subtype.property _) (Subtype.property _),obs]
    rw [show eA (g.getD 0 0).1 (g.getD 1 0).1=(g.getD 0 0+g.getD 1 0).1 from rfl,Ec,if_neg h2]
  ·rw [if_neg h1]
   refine ⟨fun h=>absurd (show (18:Int)=0 from h) (by decide),fun _=>⟨P,c.1.A,c.1.B,bA ?_⟩⟩
   simp only [aG]
   rw [brd hlt,hat,obs,vg hkd,obs,aa _ om om,brb (by rw [aP];omega)]
theorem C6 (hkd:kind=1∨kind=2) {R:List (List K)} {c:K} {s:Source} {k:Int} (hf:Few s k) (hk:k+3*R.length≤999990):
 bm (kind:Int) c.1 (kvv R) s=some (if (vfM kind bv0 R 0 c s).1=0 then (kv (vfM kind bv0 R 0 c s).2.1,(vfM kind bv0 R 0 c s).2.2.1.1,0,(vfM kind bv0 R 0 c s).2.2.2) else ([],e0,(vfM kind bv0 R 0 c s).1,(vfM kind bv0 R 0 c s).2.2.2)):=by
 have hk0:0≤k:=by have:=hf.2;have:=hf.1.4;omega
 have h:=Tp (c7:=0) (c8:=0) hkd R [] c s k [] hf hk (by rw [List.length_nil];omega) (by rw [List.length_nil];omega)
 rw [List.nil_append,List.length_nil] at h
 unfold bm
 rw [Wo]
 by_cases h0:(vfM kind bv0 R 0 c s).1=0
 ·rw [if_pos h0]
  have:=h.1 h0
  rw [show (((0:Nat):Int))=0 from rfl] at this
  rw [this];rfl
 ·rw [if_neg h0]
  obtain ⟨P',A,B,e⟩:=h.2 h0
  rw [show (((0:Nat):Int))=0 from rfl] at e
  rw [e];rfl
end Go.AI.Fn
set_option linter.unusedVariables false
set_option linter.unusedSimpArgs false
namespace Go.AI.Fn
theorem a79 {α:Type} {f:α→List UInt8} {c:Nat}: ∀{l:List α},(∀x∈l,(f x).length≤c)→(l.flatMap f).length≤l.length*c
 |[],_=>by simp
 |x::l,h=>by
  have h1:=h x (by simp)
  have h2:=a79 (l:=l) fun y hy=>h y (by simp [hy])
  rw [List.flatMap_cons,List.length_append,List.length_cons,Nat.succ_mul];omega
def flB (P:List (List (List UInt8))):List UInt8:=P.flatMap fun x=>x.flatMap id
structure BoO (o:au):Prop where
 rn:o.Rounds.length≤6
 rr: ∀g∈o.Rounds,g.length≤3
 ro:o.Roots.length≤6
 rh: ∀x∈o.Roots,x.length≤32
 qn:o.Queries.length≤8
 qp: ∀q∈o.Queries,q.Pairs.length≤12
 qt: ∀q∈o.Queries,q.Paths.length≤6
 qq: ∀q∈o.Queries, ∀p∈q.Paths,p.length≤8∧ ∀x∈p,x.length≤32
theorem b4U {l:List (List UInt8)}:l.all h32=true↔ ∀x∈l,x.length=32:=by simp [List.all_eq_true,h32]
theorem xV {v:Nat} {t:Setting} {q:aj} (h:Iy (v:Int) t q=true):q.Pairs.length=2*v∧cE q.Pairs∧q.Paths.length=v∧ ∀j,j<v→(((q.Paths.getD j []).length:Nat):Int)=v+t.Rate-1-j∧ ∀x∈q.Paths.getD j [],x.length=32:=by
 unfold Iy at h
 simp only [Bool.and_eq_true,decide_eq_true_eq] at h
 refine ⟨by omega,a1p.1 h.2.1,by omega,fun j hj=> ?_⟩
 have:=qY.1 h.2.2.2 j om
 unfold YU at this
 simp only [Bool.and_eq_true,decide_eq_true_eq] at this
 exact ⟨this.1,b4U.1 this.2⟩
structure OkO (o:au) (v:Nat) (t:Setting):Prop where
 v1:1≤v∧v≤6
 st:setB t=true
 rn:o.Rounds.length=v
 rr: ∀g∈o.Rounds,g.length=3∧cE g
 ro:o.Roots.length=v-1
 rh: ∀x∈o.Roots,x.length=32
 la:okE o.Last
 no:0≤o.Nonce∧o.Nonce≤65535
 qn:(o.Queries.length:Int)=t.Queries
 qq: ∀q∈o.Queries,Iy (v:Int) t q=true
theorem Ta {o:au} {v:Nat} {t:Setting} (h:okO o (v:Int) t=true):OkO o v t:=by
 unfold okO y5 at h
 simp only [Bool.and_eq_true,decide_eq_true_eq,List.all_eq_true] at h
 obtain ⟨h1,h2,⟨h3,h4⟩,h5,h6,h7,h8,h9,h10⟩:=h
 refine ⟨by omega,h2,by omega,fun g hg=> ?_,by omega,fun x hx=> ?_,CE.1 h7,h8,h9,h10⟩
 ·have:=h4 g hg
  unfold oC at this
  simp only [Bool.and_eq_true,decide_eq_true_eq] at this
  exact ⟨by omega,a1p.1 this.2⟩
 ·have:=h6 x hx
  simpa [h32] using this
theorem OkO.path {o:au} {v:Nat} {t:Setting} (h:OkO o v t) {q:aj} (hq:q∈o.Queries) {p:List (List UInt8)} (hp:p∈q.Paths):p.length≤8∧ ∀x∈p,x.length=32:=by
 obtain ⟨_,_,h3,h4⟩:=xV (h.qq q hq)
 obtain ⟨j,hj,rfl⟩:=List.getElem_of_mem hp
 have:=h4 j om
 have hs:=hG h.st
 have hv:=h.v1
 rw [show q.Paths.getD j []=q.Paths[j] by simp [hj]] at this
 exact ⟨by omega,this.2⟩
theorem BoO.sm {o:au} (h:BoO o):SmO o:=⟨by have:=h.rn;omega,fun g hg=>by have:=h.rr g hg;omega,by have:=h.ro;omega,by have:=h.qn;omega,fun q hq=>by have:=h.qp q hq;omega,fun q hq p hp=>by have:=(h.qq q hq p hp).1;omega⟩
theorem BoO.pth {o:au} (h:BoO o) {q:aj} (hq:q∈o.Queries) {p:List (List UInt8)} (hp:p∈q.Paths):(p.flatMap id).length≤256:=by
 have h1:=h.qq q hq p hp
 have:=a79 (f:=id) (c:=32) h1.2
 have:=h1.1;omega
theorem BoO.pths {o:au} (h:BoO o) {q:aj} (hq:q∈o.Queries):(flB q.Paths).length≤1536:=by
 have:=a79 (f:=fun x:List (List UInt8)=>x.flatMap id) (c:=256) fun p hp=>h.pth hq hp
 have h2:=h.qt q hq
 unfold flB;omega
theorem BoO.rnd {o:au} (h:BoO o) {g:List Ext} (hg:g∈o.Rounds):(g.flatMap e8).length≤24:=by
 have:=h.rr g hg
 rw [J3];omega
variable {o:au} {v:Nat} {t:Setting}
end Go.AI.Fn
set_option linter.unusedVariables false
set_option linter.unusedSimpArgs false
namespace Go.AI.Fn
def hsA (m:Nat):Nat→Nat
 |0=>0
 |j+1=>hsA m j+(m-j)
theorem UJ {m:Nat} (hm:m≤8): ∀j,hsA m j≤8*j
 |0=>Nat.le_refl 0
 |j+1=>by have:=UJ hm j;rw [hsA];omega
def szO (v:Nat) (t:Setting):Int:=24*v+32*((v:Int)-1)+8+4+t.Queries*(16*v+32*hsA (v+t.Rate.toNat-1) v)
variable {o:au} {v:Nat} {t:Setting}
theorem szq (h:setB t=true) {X:Int} (h0:0≤X) (h1:X≤2000):0≤t.Queries*X∧t.Queries*X≤16000:=by
 have hs:=hG h
 refine ⟨Int.mul_nonneg om h0, ?_⟩
 exact Int.le_trans (Int.mul_le_mul_of_nonneg_right hs.2.1.2 h0) om
theorem K1 (hv:1≤v∧v≤6) (h:setB t=true):mg (v:Int) t=some (szO v t):=by
 have hs:=hG h
 unfold mg
 have key:=aA (step:=dT (v:Int) (v:Int) t.Rate t.Queries t.Grind) (fun j=>((hsA (v+t.Rate.toNat-1) j:Int),(j:Int))) v (e:=((hsA (v+t.Rate.toNat-1) v:Int),(v:Int),false)) (fun j hj=> ?_) ?_
 ·have key':Loop (dT (v:Int) (v:Int) t.Rate t.Queries t.Grind) (0,0)=_:=key
  have hb:=UJ (m:=v+t.Rate.toNat-1) om v
  have hq:=szq h (X:=16*v+32*hsA (v+t.Rate.toNat-1) v) om om
  rw [key',obs]
  dsimp only
  rw [aa (24*(v:Int)) om om,aa ((v:Int)-1) om om,aa (32*((v:Int)-1)) om om,aa (24*(v:Int)+32*((v:Int)-1)) om om,aa (24*(v:Int)+32*((v:Int)-1)+8) om om,aa (24*(v:Int)+32*((v:Int)-1)+8+4) om om,
   aa (16*(v:Int)) om om,aa (32*(hsA (v+t.Rate.toNat-1) v:Int)) om om,aa (16*(v:Int)+32*(hsA (v+t.Rate.toNat-1) v:Int)) om om,aa (t.Queries*(16*(v:Int)+32*(hsA (v+t.Rate.toNat-1) v:Int))) om om,aa _ om om];rfl
 ·have hb:=UJ (m:=v+t.Rate.toNat-1) om j
  simp only [dT]
  rw [brd om,aa ((v:Int)+t.Rate) om om,aa ((v:Int)+t.Rate-1) om om,aa ((v:Int)+t.Rate-1-(j:Int)) om om,aa ((hsA (v+t.Rate.toNat-1) j:Int)+_) om om,aa ((j:Int)+1) om om,hsA]
  rw [show (hsA (v+t.Rate.toNat-1) j:Int)+((v:Int)+t.Rate-1-(j:Int))=((hsA (v+t.Rate.toNat-1) j+(v+t.Rate.toNat-1-j):Nat):Int) by omega];rfl
 ·simp only [dT]
  rw [brn om,decide_eq_false om]
theorem b8D (hv:1≤v∧v≤6) (h:setB t=true):0≤szO v t∧szO v t≤20000:=by
 have hs:=hG h
 have hb:=UJ (m:=v+t.Rate.toNat-1) om v
 have hq:=szq h (X:=16*v+32*hsA (v+t.Rate.toNat-1) v) om om
 unfold szO;omega
end Go.AI.Fn
set_option linter.unusedVariables false
set_option linter.unusedSimpArgs false
namespace Go.AI.Fn
def SzT (x:List UInt8):Prop:=x.length≤1048576
def b7C (a:List (List UInt8)):Prop:=a.length≤1048576∧ ∀x∈a,SzT x
def c08 (a:List (List (List UInt8))):Prop:=a.length≤1048576∧ ∀x∈a,b7C x
def b2u (a:List (List Ext)):Prop:=a.length≤1048576∧ ∀x∈a,x.length≤1048576
def SzQ (q:aj):Prop:=q.Pairs.length≤1048576∧c08 q.Paths
def SzO (o:au):Prop:=b2u o.Rounds∧b7C o.Roots∧o.Queries.length≤1048576∧ ∀q∈o.Queries,SzQ q
def SzP (p:gn):Prop:=SzT p.Root∧b2u p.Gates∧b2u p.Wires∧SzO p.Open
theorem SzO.sm {o:au} (h:SzO o):SmO o:=⟨by have:=h.1.1;omega,fun g hg=>by have:=h.1.2 g hg;omega,by have:=h.2.1.1;omega,by have:=h.2.2.1;omega,fun q hq=>by have:=(h.2.2.2 q hq).1;omega,fun q hq p hp=>by have:=((h.2.2.2 q hq).2.2 p hp).1;omega⟩
end Go.AI.Fn
set_option linter.unusedVariables false
set_option linter.unusedSimpArgs false
namespace Go.AI.Fn
noncomputable def okP (p:gn) (s:System) (t:Setting):Bool:=
 ne s&&(setB t&&(h32 p.Root&&(y5 p.Gates s.Rows 4&&(iE p.VA&&(iE p.VB&&(iE p.VC&&(y5 p.Wires s.Cols 3&&(iE p.VW&&okO p.Open (s.Cols-1) t))))))))
theorem b5s {R:List (List Ext)} {size:Int} {X:Type} {x y:X} (hl:R.length≤1048576) (hR: ∀g∈R,g.length≤1048576) {step:Int→Option (Int⊕(Unit⊕(Int×Bool)))} {g:Int×Bool→Option X} (hg: ∀e,g e=some y)
 (hs: ∀t,step t=br (decide (t<((R.length:Nat):Int))) ((atL R t).bind fun x=>br (((x.length:Nat):Int) !=size) (some (.inr (.inl ()))) ((atL R t).bind fun x2=>(gU x2).bind fun r=>br (!r) (some (.inr (.inl ()))) (some (.inl (IntKind.wrap .i64 (t+1)))))) (some (.inr (.inr (t,decide (t<((R.length:Nat):Int))))))):
 (Loop step 0).bind (alt (fun _=>some x) g)=some (if R.all (oC size)=true then y else x):=by
 rw [←xg R [] (oC size)]
 have hm: ∀k,k<R.length→R.getD k []∈R:=fun k hk=>by simp [hk]
 refine yt R.length _ (fun _=>()) (fun k hk hp=> ?_) (fun k hk hp=> ?_) (e2:=((R.length:Int),false)) ?_ (fun _=>rfl) (hg _)
 ·have:=hR _ (hm k hk)
  simp only [oC,Bool.and_eq_true,decide_eq_true_eq] at hp
  rw [hs,brd om,mV (d:=[]) hk,obs,cZ hp.1,obs,ju om,obs,hp.2,Bool.not_true,aw,aa _ om om];rfl
 ·have:=hR _ (hm k hk)
  rw [hs,brd om,mV (d:=[]) hk,obs]
  by_cases c:((R.getD k []).length:Int)=size
  ·rw [oC,decide_eq_true c,Bool.true_and] at hp
   rw [cZ c,obs,ju om,obs,hp];rfl
  ·rw [brb c]
 ·rw [hs,brn om,decide_eq_false om]
theorem Je {p:gn} {s:System} {t:Setting} (h:SzP p) (hA:s.A.length≤1048576) (hB:s.B.length≤1048576) (hC:s.C.length≤1048576):tP p s t=some (okP p s t):=by
 have g1:=h.2.1.1
 have g2:=h.2.2.1.1
 unfold tP okP
 rw [FV om om om,obs]
 cases hs:ne s
 ·rfl
 ·obtain ⟨hr,hc,_⟩:=fQ hs
  rw [bF,u4,obs,vl,uO om (fun g hg=>by have:=h.2.1.2 g hg;omega),uO om (fun g hg=>by have:=h.2.2.1.2 g hg;omega),aa _ om om,Oq h.2.2.2.sm,pp,pp,pp,pp]
  simp only [obs,Bool.true_and,h32]
  cases setB t<;>cases decide (p.Root.length=32)<;>cases y5 p.Gates s.Rows 4<;>cases iE p.VA<;>cases iE p.VB<;>cases iE p.VC<;>cases y5 p.Wires s.Cols 3<;>cases iE p.VW<;>rfl
theorem VT {p:gn} {s:System} {t:Setting} (h:SzP p):xm p s t=some (okP p s t):=by
 have g1:=h.2.1.1
 have g2:=h.2.2.1.1
 unfold xm okP y5
 rw [FG,obs]
 cases hs:ne s
 ·rfl
 ·obtain ⟨hr,hc,_⟩:=fQ hs
  rw [Bool.not_true,aw,uK,obs,ju (by simp),obs,aa (s.Cols-1) om om,Qt h.2.2.2.sm]
  cases setB t
  ·rfl
  ·rw [Bool.not_true,aw,Bool.true_and,Bool.true_and,h32]
   by_cases c1:p.Root.length=32
   ·rw [cZ om,decide_eq_true c1,Bool.true_and]
    by_cases c2:(p.Gates.length:Int)=s.Rows
    ·rw [cZ c2,decide_eq_true c2,Bool.true_and]
     by_cases c3:(p.Wires.length:Int)=s.Cols
     ·rw [cZ c3,decide_eq_true c3,Bool.true_and]
      simp only [obs]
      have k2:=fun l c c2 c3 c4 c5 c6 c7 c8 c10 c11 c12 c13 c14 c15 c16 c17 c18 c19 c20 c21 c22 c23 c24 c25 c26=>b5s (R:=p.Wires) (size:=3) (x:=false) (y:=okO p.Open (s.Cols-1) t) (step:=qv l c c2 c3 c4 c5 c6 c7 c8 p.Wires c10 c11 c12 c13 c14 c15 c16 c17 c18 c19 c20 c21 c22 c23 c24 c25 c26) (g:=fun _=>some (okO p.Open (s.Cols-1) t)) g2 h.2.2.1.2 (fun _=>rfl) (fun t=>rfl)
      have k1:=fun l c c3 c4 c5 c6 c7 c8 c9 c10 c11 c12 c13 c14 c15 c16 c17 c18 c19 c20 c21 c22 c23 c24 c25 c26 g (hg: ∀e,g e=_)=>b5s (R:=p.Gates) (size:=4) (x:=false) (y:=if p.Wires.all (oC 3)=true then okO p.Open (s.Cols-1) t else false) (step:=pW l c p.Gates c3 c4 c5 c6 c7 c8 c9 c10 c11 c12 c13 c14 c15 c16 c17 c18 c19 c20 c21 c22 c23 c24 c25 c26) (g:=g) g1 h.2.1.2 hg (fun t=>rfl)
      rw [k1 _ _ _ _ _ _ _ _ _ _ _ _ _ _ _ _ _ _ _ _ _ _ _ _ _ _ _ (fun e=>k2 _ _ _ _ _ _ _ _ _ _ _ _ _ _ _ _ _ _ _ _ _ _ _ _ _ _)]
      simp only [List.all_cons,List.all_nil,Bool.and_true]
      cases iE p.VA<;>cases iE p.VB<;>cases iE p.VC<;>cases iE p.VW<;>cases p.Gates.all (oC 4)<;>cases p.Wires.all (oC 3)<;>rfl
     ·rw [brb c3,decide_eq_false c3]
      cases p.Gates.all (oC 4)<;>cases iE p.VA<;>cases iE p.VB<;>cases iE p.VC<;>rfl
    ·rw [brb c2,decide_eq_false c2];rfl
   ·rw [brb om,decide_eq_false c1];rfl
end Go.AI.Fn
set_option linter.unusedVariables false
set_option linter.unusedSimpArgs false
namespace Go.AI.Fn
def b0j {α:Type} (G:aR→Option (α×aR)) (n:Nat) (D:List UInt8→α):Prop:=
 ∀r:List UInt8,n≤r.length→r.length≤100000→G ⟨r⟩=some (D r,⟨r.drop n⟩)
def b4S {α:Type} (F:dd→Option (α×dd)) (n:Nat) (D:List UInt8→α) (V:α→Prop):Prop:=
 ∀m:dd,m.t.length≤100000→ ∃x t ok,F m=some (x,⟨t,ok⟩)∧t.length≤m.t.length∧(ok=true↔m.ok=true∧n≤m.t.length∧V (D m.t))∧(ok=true→x=D m.t∧t=m.t.drop n)
def dE (k:Nat) (r:List UInt8):List Ext:=dec (r.take (8*k))
def d1 (r:List UInt8):Ext:=(dec (r.take 8)).getD 0 e0
def d4 (r:List UInt8):Int:=match r with
 |a::b::c::d::_=>be a b c d
 |_=>0
theorem E9 {r:List UInt8} {n:Nat} (h:n≤r.length):jO r 0 (n:Int)=some (r.take n)∧jO r (n:Int) ((r.length:Nat):Int)=some (r.drop n):=by
 constructor
 ·rw [fK om om om];simp
 ·rw [fK om om om,List.take_of_length_le (by rw [List.length_drop];omega)];simp
theorem Ps (n:Nat):b0j (dN (n:Int)) n (fun r=>r.take n):=by
 intro r h hr
 obtain ⟨h1,h2⟩:=E9 h
 unfold dN
 dsimp only
 rw [h1,obs,h2];rfl
theorem Oi:b0j dU 32 (fun r=>r.take 32):=by
 intro r h hr
 unfold dU
 rw [show (32:Int)=((32:Nat):Int) from rfl,Ps 32 r h hr];rfl
theorem BR {k:Nat} (hk:k≤1000):b0j (cC (k:Int)) (8*k) (dE k):=by
 intro r h hr
 unfold cC
 rw [aa _ om om,show 8*(k:Int)=((8*k:Nat):Int) by omega,Ps (8*k) r h hr,obs,Sf (by rw [List.length_take];omega)];rfl
theorem N1 {n:Nat} (hn:n≤100000):b4S (bR (n:Int)) n (fun r=>r.take n) (fun _=>True):=by
 intro m hm
 unfold bR
 by_cases h:n≤m.t.length
 ·obtain ⟨h1,h2⟩:=E9 h
  rw [brn om,h1,obs,h2]
  exact ⟨_,_,_,rfl,by rw [List.length_drop];omega,⟨fun e=>⟨e,h,trivial⟩,fun e=>e.1⟩,fun _=>⟨rfl,rfl⟩⟩
 ·rw [brd om,Ay om om om]
  exact ⟨_,_,_,rfl,Nat.le_refl _,⟨(fun e=>nomatch e),fun e=>absurd e.2.1 h⟩,(fun e=>nomatch e)⟩
theorem IK {k:Nat} (hk:k≤1000):b4S (eK (k:Int)) (8*k) (dE k) cE:=by
 intro m hm
 unfold eK bR
 rw [aa _ om om,show 8*(k:Int)=((8*k:Nat):Int) by omega]
 by_cases h:8*k≤m.t.length
 ·obtain ⟨h1,h2⟩:=E9 h
  have hl:(m.t.take (8*k)).length=8*k:=by rw [List.length_take];omega
  rw [brn om,h1,obs,h2,obs,obs]
  dsimp only
  rw [To om,obs,hl]
  by_cases hv:(dE k m.t).all iE=true
  ·rw [if_pos ⟨by omega,hv⟩]
   cases hok:m.ok with
   |true=>exact ⟨_,_,_,rfl,by rw [List.length_drop];omega,⟨fun _=>⟨rfl,h,a1p.1 hv⟩,fun _=>rfl⟩,fun _=>⟨rfl,rfl⟩⟩
   |false=>exact ⟨_,_,_,rfl,by rw [List.length_drop];omega,⟨(fun e=>nomatch e),(fun e=>nomatch e.1)⟩,(fun e=>nomatch e)⟩
  ·rw [if_neg (fun e=>hv e.2)]
   cases hok:m.ok<;>exact ⟨_,_,_,rfl,by rw [List.length_drop];omega,⟨(fun e=>nomatch e),fun e=>absurd (a1p.2 e.2.2) hv⟩,(fun e=>nomatch e)⟩
 ·rw [brd om,Ay om om om,obs,To (by rw [List.length_replicate];omega),obs,aw]
  exact ⟨_,_,_,rfl,Nat.le_refl _,⟨(fun e=>nomatch e),fun e=>absurd e.2.1 h⟩,(fun e=>nomatch e)⟩
theorem a2y {k:Nat} {r:List UInt8} (h:8*k≤r.length):(dE k r).length=k:=by rw [dE,N5,List.length_take];omega
theorem Qy:b4S fP 8 d1 okE:=by
 intro m hm
 obtain ⟨x,t,ok,e,h1,h2,h3⟩:=IK (k:=1) om m hm
 unfold fP
 rw [show (1:Int)=((1:Nat):Int) from rfl,e,obs]
 dsimp only
 have hone:8≤m.t.length→dE 1 m.t=[d1 m.t]:=fun h=>by
  have hl:=a2y (k:=1) (r:=m.t) om
  show dE 1 m.t=[(dE 1 m.t).getD 0 e0]
  match dE 1 m.t,hl with
  |[y],_=>rfl
 have hv:8≤m.t.length→(cE (dE 1 m.t)↔okE (d1 m.t)):=fun h=>by
  rw [hone h]
  exact ⟨fun g=>g _ (by simp),fun g y hy=>by simp only [List.mem_singleton] at hy;subst hy;exact g⟩
 have hok:ok=true↔m.ok=true∧8≤m.t.length∧okE (d1 m.t):=by
  rw [h2]
  exact ⟨fun ⟨a,b,c⟩=>⟨a,by omega,(hv om).1 c⟩,fun ⟨a,b,c⟩=>⟨a,by omega,(hv b).2 c⟩⟩
 by_cases hx:x.length=0
 ·rw [bre om]
  refine ⟨_,_,_,rfl,h1,hok,fun g=> ?_⟩
  obtain ⟨rfl,rfl⟩:=h3 g
  rw [a2y (by have:=(h2.1 g).2.1;omega)] at hx
  omega
 ·rw [Pu om]
  obtain ⟨y,ys,rfl⟩: ∃y ys,x=y::ys:=by
   cases x with
   |nil=>simp at hx
   |cons y ys=>exact ⟨y,ys,rfl⟩
  rw [show atL (y::ys) 0=some y from rfl,obs]
  refine ⟨_,_,_,rfl,h1,hok,fun g=> ?_⟩
  obtain ⟨e1,rfl⟩:=h3 g
  rw [hone (hok.1 g).2.1] at e1
  cases e1
  exact ⟨rfl,rfl⟩
def dL {α:Type} (sz:Nat→Nat) (D:Nat→List UInt8→α):Nat→Nat→List UInt8→List α
 |0,_,_=>[]
 |d+1,j,r=>D j r::dL sz D d (j+1) (r.drop (sz j))
def tL (sz:Nat→Nat):Nat→Nat→Nat
 |0,_=>0
 |d+1,j=>sz j+tL sz d (j+1)
theorem gt (c:Nat): ∀d j,tL (fun _=>c) d j=d*c
 |0,_=>by simp [tL]
 |d+1,j=>by rw [tL,gt c d,Nat.succ_mul];omega
theorem PM {α:Type} (sz:Nat→Nat) (D:Nat→List UInt8→α): ∀d j r,(dL sz D d j r).length=d
 |0,_,_=>rfl
 |d+1,j,r=>by rw [dL,List.length_cons,PM sz D d]
theorem a9U {α:Type} {l:List α} {x:α} {b:Nat} (hb:b≤100) (hl:l.length+1≤1001):(l++[x]).length*b≤1099511627776:=by
 rw [List.length_append,List.length_singleton]
 have:(l.length+1)*b≤1001*100:=Nat.mul_le_mul hl hb
 omega
theorem DZ {α:Type} {sz:Nat→Nat} {D:Nat→List UInt8→α} {k:Nat} {ix:Nat→Int}
 {step:List α×Int×List UInt8→Option ((List α×Int×List UInt8)⊕(List α×Int×Bool×List UInt8))} {b:Nat} (hb:b≤100)
 (hs: ∀l j (r:List UInt8),j<k→sz j≤r.length→r.length≤100000→step (l,ix j,r)=br (bE (l++[D j r]).length b) (some (.inl (l++[D j r],ix (j+1),r.drop (sz j)))) none)
 (he: ∀l r,step (l,ix k,r)=some (.inr (l,ix k,false,r))):
 ∀d j l (r:List UInt8),j+d=k→l.length+d≤1000→r.length≤100000→tL sz d j≤r.length→Loop step (l,ix j,r)=some (l++dL sz D d j r,ix k,false,r.drop (tL sz d j))
 |0,j,l,r,hj,hl,hr,ht=>by
  rw [Nat.add_zero] at hj;subst hj
  rw [bA (he l r),dL,tL,List.append_nil,List.drop_zero]
 |d+1,j,l,r,hj,hl,hr,ht=>by
  rw [tL] at ht ⊢
  have hst:=hs l j r om om hr
  rw [aC (a9U hb om)] at hst
  rw [bn hst,DZ hb hs he d (j+1) _ _ om (by rw [List.length_append,List.length_singleton];omega) (by rw [List.length_drop];omega) (by rw [List.length_drop];omega),dL,List.append_assoc,List.drop_drop]
  rfl
theorem wc {α:Type} {sz:Nat→Nat} {D:Nat→List UInt8→α} {V:α→Prop} {k:Nat} {ix:Nat→Int}
 {step:List α×Int×List UInt8×Bool→Option ((List α×Int×List UInt8×Bool)⊕(List α×Int×Bool×List UInt8×Bool))} {b:Nat} (hb:b≤100)
 (hs: ∀l j (t:List UInt8) ok,j<k→t.length≤100000→ ∃x t1 ok1,step (l,ix j,t,ok)=br (bE (l++[x]).length b) (some (.inl (l++[x],ix (j+1),t1,ok1))) none∧t1.length≤t.length∧
  (ok1=true↔ok=true∧sz j≤t.length∧V (D j t))∧(ok1=true→x=D j t∧t1=t.drop (sz j)))
 (he: ∀l t ok,step (l,ix k,t,ok)=some (.inr (l,ix k,false,t,ok))):
 ∀d j l (t:List UInt8) ok,j+d=k→l.length+d≤1000→t.length≤100000→ ∃l' t' ok',Loop step (l,ix j,t,ok)=some (l++l',ix k,false,t',ok')∧t'.length≤t.length∧
  (ok'=true↔ok=true∧tL sz d j≤t.length∧ ∀x∈dL sz D d j t,V x)∧(ok'=true→l'=dL sz D d j t∧t'=t.drop (tL sz d j))
 |0,j,l,t,ok,hj,hl,ht=>by
  rw [Nat.add_zero] at hj;subst hj
  exact ⟨[],t,ok,by rw [bA (he l t ok),List.append_nil],Nat.le_refl _,⟨fun e=>⟨e,by simp [tL],by simp [dL]⟩,fun e=>e.1⟩,fun _=>⟨rfl,by simp [tL]⟩⟩
 |d+1,j,l,t,ok,hj,hl,ht=>by
  obtain ⟨x,t1,ok1,hst,h1,h2,h3⟩:=hs l j t ok om ht
  rw [aC (a9U hb om)] at hst
  obtain ⟨l',t',ok',g,g1,g2,g3⟩:=wc hb hs he d (j+1) (l++[x]) t1 ok1 om (by rw [List.length_append,List.length_singleton];omega) om
  refine ⟨x::l',t',ok',by rw [bn hst,g,List.append_assoc];rfl,by omega, ?_,fun hh=> ?_⟩
  ·rw [tL,dL]
   constructor
   ·intro hh
    obtain ⟨a1,a2,a3⟩:=g2.1 hh
    obtain ⟨b1,b2,b3⟩:=h2.1 a1
    obtain ⟨c1,rfl⟩:=h3 a1
    rw [List.length_drop] at a2
    exact ⟨b1,by omega,fun y hy=>by
     rcases List.mem_cons.1 hy with rfl|hy
     ·exact b3
     ·exact a3 y hy⟩
   ·rintro ⟨a1,a2,a3⟩
    have hk:ok1=true:=h2.2 ⟨a1,by omega,a3 _ (by simp)⟩
    obtain ⟨c1,rfl⟩:=h3 hk
    exact g2.2 ⟨hk,by rw [List.length_drop];omega,fun y hy=>a3 y (by simp [hy])⟩
  ·obtain ⟨q1,q2⟩:=g3 hh
   obtain ⟨a1,_,_⟩:=g2.1 hh
   obtain ⟨rfl,rfl⟩:=h3 a1
   rw [q1,q2,dL,tL,List.drop_drop]
   exact ⟨rfl,rfl⟩
end Go.AI.Fn
set_option linter.unusedVariables false
set_option linter.unusedSimpArgs false
namespace Go.AI.Fn
def hsL (n:Nat) (r:List UInt8):List (List UInt8):=dL (fun _=>32) (fun _ r=>r.take 32) n 0 r
def rsL (k n:Nat) (r:List UInt8):List (List Ext):=dL (fun _=>8*k) (fun _=>dE k) n 0 r
def pS (m j:Nat):Nat:=(m-j)*32
def dQ (v m:Nat) (r:List UInt8):aj:=⟨dE (2*v) r,dL (pS m) (fun j r=>hsL (m-j) r) v 0 (r.drop (8*(2*v)))⟩
def nQ (v m:Nat):Nat:=8*(2*v)+tL (pS m) v 0
def dO (v m nq:Nat) (r:List UInt8):au:=
 ⟨rsL 3 v r,hsL (v-1) (r.drop (v*(8*3))),d1 ((r.drop (v*(8*3))).drop ((v-1)*32)),d4 (((r.drop (v*(8*3))).drop ((v-1)*32)).drop 8),
  dL (fun _=>nQ v m) (fun _=>dQ v m) nq 0 ((((r.drop (v*(8*3))).drop ((v-1)*32)).drop 8).drop 4)⟩
def nO (v m nq:Nat):Nat:=v*(8*3)+((v-1)*32+(8+(4+nq*nQ v m)))
theorem b9h (m:Nat): ∀d j,j+d≤m→tL (pS m) d j+hsA m j*32=hsA m (j+d)*32
 |0,j,_=>by simp [tL]
 |d+1,j,h=>by
  have:=b9h m d (j+1) om
  rw [tL,pS,show j+(d+1)=j+1+d by omega, ←this,hsA];omega
theorem b94 {m v:Nat} (h:v≤m):tL (pS m) v 0=32*hsA m v:=by
 have:=b9h m v 0 om
 rw [hsA,Nat.zero_add] at this;omega
theorem b9W {v:Nat} {t:Setting} (hv:1≤v∧v≤6) (h:setB t=true):((nO v (v+t.Rate.toNat-1) t.Queries.toNat:Nat):Int)=szO v t:=by
 have hs:=hG h
 unfold nO nQ szO
 rw [b94 om]
 have e:((t.Queries.toNat*(8*(2*v)+32*hsA (v+t.Rate.toNat-1) v):Nat):Int)=t.Queries*(16*(v:Int)+32*(hsA (v+t.Rate.toNat-1) v:Int)):=by
  rw [Int.natCast_mul,Int.toNat_of_nonneg om]
  congr 1;omega
 omega
theorem H7 {n k:Nat} (hn:n≤100) (hk:k≤100):b0j (dc (n:Int) (k:Int)) (n*(8*k)) (rsL k n):=by
 intro r h hr
 have key:=DZ (sz:=fun _=>8*k) (D:=fun _=>dE k) (k:=n) (ix:=fun j=>(j:Int)) (step:=cf (k:Int) (n:Int)) (b:=24) om (fun l j r hj h1 h2=>by
  simp only [cf]
  rw [brd om,BR om r h1 h2,obs,aa _ om om];rfl) (fun l r=>by
  simp only [cf]
  rw [brn om,decide_eq_false om]) n 0 [] r om (by rw [List.length_nil];omega) hr (by rw [gt];exact h)
 unfold dc
 dsimp only
 rw [show Loop (cf (k:Int) (n:Int)) ([],0,r)=_ from key,obs,gt,List.nil_append];rfl
theorem a0b {r:List UInt8} (h:4≤r.length):nX (r.take 4)=some (d4 r)∧jL (r.take 4)=some (d4 r):=by
 match r,h with
 |a::b::c::d::r,_=>exact ⟨D6 a b c d,JJ a b c d⟩
theorem b5w {r:List UInt8} (h:8≤r.length):atL (dE 1 r) 0=some (d1 r):=by
 have hl:=a2y (k:=1) (r:=r) om
 show atL (dE 1 r) 0=some ((dE 1 r).getD 0 e0)
 match dE 1 r,hl with
 |[y],_=>rfl
section
variable {v ρ nq:Nat} {t:Setting}
theorem a1v {l2:List (List UInt8)} {l3:List aj} {l6:List (List (List UInt8))} {t7 t8 t9 t10 t11 c24 c25 c26 c27 c28 c29 c31 c32 c33:Int} {c30:List (List Ext)} {c34:List Ext} (n:Nat) (hn:n≤100) (r:List UInt8) (h:n*32≤r.length) (hr:r.length≤100000):
 Loop (bz l2 l3 l6 t7 t8 t9 t10 t11 (n:Int) c24 c25 c26 c27 c28 c29 c30 c31 c32 c33 c34) ([],0,r)=some (hsL n r,(n:Int),false,r.drop (n*32)):=by
 have key:=DZ (sz:=fun _=>32) (D:=fun _ r=>r.take 32) (k:=n) (ix:=fun j=>(j:Int)) (step:=bz l2 l3 l6 t7 t8 t9 t10 t11 (n:Int) c24 c25 c26 c27 c28 c29 c30 c31 c32 c33 c34) (b:=16) om (fun l j r hj h1 h2=>by
  simp only [bz]
  rw [brd om,Oi r h1 h2,obs,aa _ om om];rfl) (fun l r=>by
  simp only [bz]
  rw [brn om,decide_eq_false om]) n 0 [] r om (by rw [List.length_nil];omega) hr (by rw [gt];exact h)
 rw [show Loop (bz l2 l3 l6 t7 t8 t9 t10 t11 (n:Int) c24 c25 c26 c27 c28 c29 c30 c31 c32 c33 c34) ([],0,r)=_ from key,gt,List.nil_append];rfl
theorem a6r {t2 c2 c3 c4 c5 c6 c7 c9 c10 c11:Int} {c8:List (List Ext)} (n:Nat) (hn:n≤100) (r:List UInt8) (h:n*32≤r.length) (hr:r.length≤100000):
 Loop (bD t2 (n:Int) c2 c3 c4 c5 c6 c7 c8 c9 c10 c11) ([],0,r)=some (hsL n r,(n:Int),false,r.drop (n*32)):=by
 have key:=DZ (sz:=fun _=>32) (D:=fun _ r=>r.take 32) (k:=n) (ix:=fun j=>(j:Int)) (step:=bD t2 (n:Int) c2 c3 c4 c5 c6 c7 c8 c9 c10 c11) (b:=16) om (fun l j r hj h1 h2=>by
  simp only [bD]
  rw [brd om,Oi r h1 h2,obs,aa _ om om];rfl) (fun l r=>by
  simp only [bD]
  rw [brn om,decide_eq_false om]) n 0 [] r om (by rw [List.length_nil];omega) hr (by rw [gt];exact h)
 rw [show Loop (bD t2 (n:Int) c2 c3 c4 c5 c6 c7 c8 c9 c10 c11) ([],0,r)=_ from key,gt,List.nil_append];rfl
theorem a5s {l2:List (List UInt8)} {l3:List aj} {t5 t6 c25 c26 c27 c28 c29 c31 c32 c33:Int} {c30:List (List Ext)} {c34:List Ext} (hv:1≤v∧v≤6) (hρ:1≤ρ∧ρ≤3) (r:List UInt8) (h:tL (pS (v+ρ-1)) v 0≤r.length) (hr:r.length≤100000):
 Loop (bT l2 l3 (v:Int) t5 t6 (v:Int) (ρ:Int) c25 c26 c27 c28 c29 c30 c31 c32 c33 c34) ([],0,r)=some (dL (pS (v+ρ-1)) (fun j r=>hsL (v+ρ-1-j) r) v 0 r,(v:Int),false,r.drop (tL (pS (v+ρ-1)) v 0)):=by
 have key:=DZ (sz:=pS (v+ρ-1)) (D:=fun j r=>hsL (v+ρ-1-j) r) (k:=v) (ix:=fun j=>(j:Int)) (step:=bT l2 l3 (v:Int) t5 t6 (v:Int) (ρ:Int) c25 c26 c27 c28 c29 c30 c31 c32 c33 c34) (b:=24) om (fun l j r hj h1 h2=>by
  simp only [bT]
  rw [brd om,aa ((v:Int)+(ρ:Int)) om om,aa ((v:Int)+(ρ:Int)-1) om om,aa ((v:Int)+(ρ:Int)-1-(j:Int)) om om,show (v:Int)+(ρ:Int)-1-(j:Int)=((v+ρ-1-j:Nat):Int) by omega,
   a1v (v+ρ-1-j) om r h1 h2,obs,aa _ om om];rfl) (fun l r=>by
  simp only [bT]
  rw [brn om,decide_eq_false om]) v 0 [] r om (by rw [List.length_nil];omega) hr h
 exact key
theorem XR {l2:List (List UInt8)} {c14 c15 c16 c17 c18 c20 c21 c22:Int} {c19:List (List Ext)} (hv:1≤v∧v≤6) (hρ:1≤ρ∧ρ≤3) (hq:nq≤8) (r:List UInt8) (h:nq*nQ v (v+ρ-1)≤r.length) (hr:r.length≤100000):
 Loop (bS l2 (v:Int) (nq:Int) (ρ:Int) c14 c15 c16 c17 c18 c19 c20 c21 c22) ([],0,r)=some (dL (fun _=>nQ v (v+ρ-1)) (fun _=>dQ v (v+ρ-1)) nq 0 r,(nq:Int),false,r.drop (nq*nQ v (v+ρ-1))):=by
 have key:=DZ (sz:=fun _=>nQ v (v+ρ-1)) (D:=fun _=>dQ v (v+ρ-1)) (k:=nq) (ix:=fun j=>(j:Int)) (step:=bS l2 (v:Int) (nq:Int) (ρ:Int) c14 c15 c16 c17 c18 c19 c20 c21 c22) (b:=48) om (fun l j r hj h1 h2=>by
  simp only [bS]
  have h1':8*(2*v)+tL (pS (v+ρ-1)) v 0≤r.length:=h1
  rw [brd om,aa (2*(v:Int)) om om,show 2*(v:Int)=((2*v:Nat):Int) by omega,BR om r om h2,obs]
  dsimp only
  rw [a5s hv hρ _ (by rw [List.length_drop];omega) (by rw [List.length_drop];omega),obs,aa _ om om,List.drop_drop];rfl) (fun l r=>by
  simp only [bS]
  rw [brn om,decide_eq_false om]) nq 0 [] r om (by rw [List.length_nil];omega) hr (by rw [gt];exact h)
 rw [gt,List.nil_append] at key
 exact key
theorem YD (hv:1≤v∧v≤6) (hs:setB t=true):b0j (eZ (v:Int) t) (nO v (v+t.Rate.toNat-1) t.Queries.toNat) (dO v (v+t.Rate.toNat-1) t.Queries.toNat):=by
 intro r h hr
 have hb:=hG hs
 unfold nO at h ⊢
 have l1:(r.drop (v*(8*3))).length=r.length-v*(8*3):=List.length_drop
 have l2:((r.drop (v*(8*3))).drop ((v-1)*32)).length=r.length-v*(8*3)-(v-1)*32:=by rw [List.length_drop,l1]
 have l3:(((r.drop (v*(8*3))).drop ((v-1)*32)).drop 8).length=r.length-v*(8*3)-(v-1)*32-8:=by rw [List.length_drop,l2]
 have l4:((((r.drop (v*(8*3))).drop ((v-1)*32)).drop 8).drop 4).length=r.length-v*(8*3)-(v-1)*32-8-4:=by rw [List.length_drop,l3]
 unfold eZ
 rw [show (3:Int)=((3:Nat):Int) from rfl,H7 om om r om hr,obs]
 dsimp only
 rw [aa ((v:Int)-1) om om,show (v:Int)-1=((v-1:Nat):Int) by omega,a6r (v-1) om _ om om,obs]
 dsimp only
 rw [show (1:Int)=((1:Nat):Int) from rfl,BR (k:=1) om _ om om,obs]
 dsimp only
 rw [b5w om,obs,show (4:Int)=((4:Nat):Int) from rfl,Ps 4 _ (by rw [show 8*1=8 from rfl];omega) (by rw [show 8*1=8 from rfl];omega),obs]
 dsimp only
 rw [show 8*1=8 from rfl,(a0b om).1,obs]
 have hq:=XR (ρ:=t.Rate.toNat) (nq:=t.Queries.toNat) (l2:=hsL (v-1) (r.drop (v*(8*3)))) (c14:=t.Queries) (c15:=t.Grind) (c16:=0) (c17:=0) (c18:=0) (c19:=rsL 3 v r) (c20:=(d1 ((r.drop (v*(8*3))).drop ((v-1)*32))).A) (c21:=(d1 ((r.drop (v*(8*3))).drop ((v-1)*32))).B) (c22:=d4 (((r.drop (v*(8*3))).drop ((v-1)*32)).drop 8)) hv om om ((((r.drop (v*(8*3))).drop ((v-1)*32)).drop 8).drop 4) om om
 rw [show ((t.Rate.toNat:Nat):Int)=t.Rate by omega,show ((t.Queries.toNat:Nat):Int)=t.Queries by omega] at hq
 rw [hq,obs]
 dsimp only
 rw [List.drop_drop,List.drop_drop,List.drop_drop,List.drop_drop]
 unfold dO
 rw [List.drop_drop,List.drop_drop,List.drop_drop]
 simp only [Nat.add_assoc]
end
end Go.AI.Fn
set_option linter.unusedVariables false
set_option linter.unusedSimpArgs false
namespace Go.AI.Fn
structure OkM (l:List Entry) (R C:Int):Prop where
 len:l.length≤200
 ent: ∀x∈l,inE R C x
 srt: ∀k (hk:k<l.length), ∀y∈l.take k,ltE y l[k]
theorem a6O {x y z:Entry} (h:ltE x y) (g:ltE y z):ltE x z:=by unfold ltE at*;omega
open Classical in
theorem WM {l:List Entry} {R C:Int} (h:uT l R C=true):OkM l R C:=by
 unfold uT at h
 obtain ⟨hl,hb⟩:=of_decide_eq_true h
 refine ⟨hl,fun x hx=> ?_,fun k=> ?_⟩
 ·obtain ⟨k,hk,rfl⟩:=List.getElem_of_mem hx
  by_cases c:inE R C l[k]
  ·exact c
  ·exact absurd ⟨_,rF hk,.inl c⟩ (hb k)
 ·induction k with
  |zero=>intro hk y hy;simp at hy
  |succ k ih=>
   intro hk y hy
   rw [cm om] at hy
   have hlt:ltE l[k] l[k+1]:=by
    by_cases c:ltE l[k] l[k+1]
    ·exact c
    ·exact absurd ⟨_,rF hk,.inr ⟨by omega,_,rF om,c⟩⟩ (hb (k+1))
   rcases List.mem_append.1 hy with hy|hy
   ·exact a6O (ih om y hy) hlt
   ·rw [List.mem_singleton.1 hy];exact hlt
theorem b1j {R C:Int} {x:Entry} (h:inE R C x):okF x.Value:=⟨by have:=h.2.2.1;omega,h.2.2.2⟩
def Ee (l:List Entry):List UInt8:=l.flatMap fun x=>[UInt8.ofInt x.Row,UInt8.ofInt x.Col]++eJ x.Value
theorem xn (l:List Entry):(Ee l).length=6*l.length:=by
 induction l with
 |nil=>rfl
 |cons x l ih=>simp only [Ee,List.flatMap_cons,List.length_append,List.length_cons] at*;rw [ih];simp [cg];omega
theorem TU (l:List Entry) (x:Entry):Ee (l++[x])=Ee l++([UInt8.ofInt x.Row,UInt8.ofInt x.Col]++eJ x.Value):=by simp [Ee]
def Q1 (l:List Entry):List UInt8:=eJ (l.length:Int)++Ee l
def Mx (s:System):List UInt8:=[115,121,115,116,101,109]++[UInt8.ofInt s.Rows,UInt8.ofInt s.Cols,UInt8.ofInt s.Publics]++Q1 s.A++Q1 s.B++Q1 s.C
theorem JH (l:List Entry):(Q1 l).length=4+6*l.length:=by rw [Q1,List.length_append,xn,cg]
theorem KC {l2 L:List UInt8} {t t2 t3 l c4 c5 c6:List Entry} {t4 c c2 c3:Int} (h:l.length≤200) (hL:L.length≤1000000):Loop (ci l2 t t2 t3 t4 l ((l.length:Nat):Int) c c2 c3 c4 c5 c6) (L,0)=some (L++Ee l,(l.length:Int),false):=by
 have key:=aA (step:=ci l2 t t2 t3 t4 l ((l.length:Nat):Int) c c2 c3 c4 c5 c6) (fun k=>(L++Ee (l.take k),(k:Int))) l.length (e:=(L++Ee l,(l.length:Int),false)) (fun k hk=> ?_) ?_
 ·simpa [Ee] using key
 ·simp only [ci]
  have hn:=xn (l.take k)
  rw [List.length_take] at hn
  rw [brd om,bO hk,obs,aC (by simp only [List.length_append,List.length_cons,List.length_nil];omega),nu (by simp only [List.length_append,List.length_cons,List.length_nil];omega),obs,aa _ om om,cm hk,TU]
  simp only [List.append_assoc,iJ]
 ·simp only [ci]
  rw [brn om,decide_eq_false om,List.take_length]
theorem a2E {l2 L:List UInt8} {t t2 t3 l c4 c5 c6:List Entry} {t4 c c2 c3:Int} (h:l.length≤200) (hL:L.length≤1000000):Loop (fg l2 t t2 t3 t4 l ((l.length:Nat):Int) c c2 c3 c4 c5 c6) (L,0)=some (L++Ee l,(l.length:Int),false):=KC (l2:=l2) (t:=t) (t2:=t2) (t3:=t3) (c4:=c4) (c5:=c5) (c6:=c6) (t4:=t4) (c:=c) (c2:=c2) (c3:=c3) h hL
theorem a2m {l2 L:List UInt8} {t t2 t3 l c4 c5 c6:List Entry} {t4 c c2 c3:Int} (h:l.length≤200) (hL:L.length≤1000000):Loop (fb l2 t t2 t3 t4 l ((l.length:Nat):Int) c c2 c3 c4 c5 c6) (L,0)=some (L++Ee l,(l.length:Int),false):=KC (l2:=l2) (t:=t) (t2:=t2) (t3:=t3) (c4:=c4) (c5:=c5) (c6:=c6) (t4:=t4) (c:=c) (c2:=c2) (c3:=c3) h hL
theorem Mn {s:System} (hA:s.A.length≤200) (hB:s.B.length≤200) (hC:s.C.length≤200):fD s=some (Mx s):=by
 have a1:=xn s.A
 have b1:=xn s.B
 have c1:=xn s.C
 unfold fD dj
 rw [aC (by simp only [List.length_append,List.length_cons,List.length_nil];omega),obs]
 dsimp only
 rw [nu (by simp only [List.length_append,List.length_cons,List.length_nil];omega),obs,KC hA (by simp only [List.length_append,List.length_cons,List.length_nil,cg];omega),obs,
  nu (by simp only [List.length_append,List.length_cons,List.length_nil,cg];omega),obs,a2E hB (by simp only [List.length_append,List.length_cons,List.length_nil,cg];omega),obs,
  nu (by simp only [List.length_append,List.length_cons,List.length_nil,cg];omega),obs,a2m hC (by simp only [List.length_append,List.length_cons,List.length_nil,cg];omega),obs]
 simp only [Mx,Q1,List.append_assoc]
theorem XY (s:System):(Mx s).length=21+6*(s.A.length+s.B.length+s.C.length):=by
 simp only [Mx,List.length_append,JH,List.length_cons,List.length_nil];omega
theorem a2S {l3 L:List UInt8} {l4:List (List Entry)} {l c4 c5 c6:List Entry} {c c2 c3:Int} {j:Nat} (hj:l4[j]? =some l) (h:l.length≤200) (hL:L.length≤1000000):Loop (fl l3 l4 (j:Int) c c2 c3 c4 c5 c6) (L,0)=some (L++Ee l,(l.length:Int),false):=by
 have hj2:j<l4.length:=by
  rcases Nat.lt_or_ge j l4.length with h|h
  ·exact h
  ·rw [List.getElem?_eq_none h] at hj;cases hj
 have key:=aA (step:=fl l3 l4 (j:Int) c c2 c3 c4 c5 c6) (fun k=>(L++Ee (l.take k),(k:Int))) l.length (e:=(L++Ee l,(l.length:Int),false)) (fun k hk=> ?_) ?_
 ·simpa [Ee] using key
 ·simp only [fl]
  have hn:=xn (l.take k)
  rw [List.length_take] at hn
  rw [brd om,brd om,Int.toNat_natCast,hj,obs,brd om,brd om,brd om,obs,bO hk,obs,vi,obs,aC (by rw [cg];simp only [List.length_cons,List.length_nil];omega),
   aC (by simp only [List.length_append,List.length_cons,List.length_nil,cg];omega),aa _ om om,cm hk,TU]
  simp only [List.append_assoc,iJ]
 ·simp only [fl]
  rw [brd om,brd om,Int.toNat_natCast,hj,obs,brn om,decide_eq_false om,List.take_length]
theorem Ku {l3 L:List UInt8} {l4:List (List Entry)} {l c4 c5 c6:List Entry} {c c2 c3:Int} {j:Nat} (hj:l4[j]? =some l) (j3:j<3) (h:l.length≤200) (hL:L.length≤900000):gY l3 l4 c c2 c3 c4 c5 c6 (L,(j:Int))=some (.inl (L++Q1 l,((j+1:Nat):Int))):=by
 have hj2:j<l4.length:=by
  rcases Nat.lt_or_ge j l4.length with h|h
  ·exact h
  ·rw [List.getElem?_eq_none h] at hj;cases hj
 simp only [gY]
 rw [brd om,brd om,brd om,Int.toNat_natCast,hj,obs,vi,obs,aC (by rw [cg];omega),a2S hj h (by rw [List.length_append,cg];omega),obs,aa _ om om,Q1]
 simp only [List.append_assoc,iJ]
theorem Qr {s:System} (hA:s.A.length≤200) (hB:s.B.length≤200) (hC:s.C.length≤200):rH s=some (H (Mx s)):=by
 have a1:=JH s.A
 have b1:=JH s.B
 have c1:=JH s.C
 have hl:=XY s
 unfold rH
 rw [aC (by simp only [List.length_cons,List.length_nil];omega),show (0:Int)=((0:Nat):Int) from rfl,
  bn (Ku (l:=s.A) (j:=0) rfl om hA (by simp only [List.length_append,List.length_cons,List.length_nil];omega)),
  bn (Ku (l:=s.B) (j:=1) rfl om hB (by simp only [List.length_append,List.length_cons,List.length_nil];omega)),
  bn (Ku (l:=s.C) (j:=2) rfl om hC (by simp only [List.length_append,List.length_cons,List.length_nil];omega)),
  bA (by simp only [gY];rw [brn om]),obs]
 dsimp only
 rw [show [115,121,115,116,101,109]++[UInt8.ofInt s.Rows,UInt8.ofInt s.Cols,UInt8.ofInt s.Publics]++Q1 s.A++Q1 s.B++Q1 s.C=Mx s from rfl,oN om];rfl
end Go.AI.Fn
set_option linter.unusedVariables false
set_option linter.unusedSimpArgs false
namespace Go.AI.Fn
def Sn:List K→List K→K
 |a::xs,b::ys=>a*b+Sn xs ys
 |_,_=>0
theorem Zt: ∀(a b:List K) (c:K),((kv a).zip (kv b)).foldl (fun c p=>eA c (eM p.1 p.2)) c.1=(c+Sn a b).1
 |[],b,c=>by
  show c.1=(c+0).1
  exact congrArg Subtype.val (by exact kg)
 |_::_,[],c=>by
  show c.1=(c+0).1
  exact congrArg Subtype.val (by exact kg)
 |x::a,y::b,c=>by
  have:=Zt a b (c+x*y)
  show ((kv a).zip (kv b)).foldl _ (c+x*y).1=_
  rw [this]
  exact congrArg Subtype.val (by rw [Sn];exact kg)
theorem a1h (a b:List K):Sv (kv a) (kv b)=(Sn a b).1:=by
 have:=Zt a b 0
 rw [Sv]
 rw [show e0=(0:K).1 from rfl,this]
 exact congrArg Subtype.val (by exact kg)
def btS (β:K) (R T:List K) (x:Entry):List K:=T.set x.Col.toNat (T.getD x.Col.toNat 0+β*R.getD x.Row.toNat 0*kF x.Value)
theorem mU (β:K) (R:List K): ∀(l:List Entry) (T:List K),(l.foldl (btS β R) T).length=T.length
 |[],T=>rfl
 |x::l,T=>by rw [List.foldl_cons,mU β R l,btS,List.length_set]
theorem a9x (l:List K) (j:Nat) (x:K):(kv l).set j x.1=kv (l.set j x):=by simp [kv,List.map_set]
theorem OQ {R T:List K} {β:K} {l t t2 t3 c4 c5 c6:List Entry} {t4 c c2 c3 c9 c10 c11 c12 RR CC:Int} (hm:OkM l RR CC) (hR:(R.length:Int)=RR) (hT:(T.length:Int)=CC):
 Loop (eD (kv R) t t2 t3 t4 l ((l.length:Nat):Int) c c2 c3 c4 c5 c6 β.1.A β.1.B c9 c10 c11 c12) (kv T,0)=some (kv (l.foldl (btS β R) T),(l.length:Int),false):=by
 have hl:=hm.len
 have key:=aA (step:=eD (kv R) t t2 t3 t4 l ((l.length:Nat):Int) c c2 c3 c4 c5 c6 β.1.A β.1.B c9 c10 c11 c12) (fun j=>(kv ((l.take j).foldl (btS β R) T),(j:Int))) l.length (e:=(kv (l.foldl (btS β R) T),(l.length:Int),false)) (fun j hj=> ?_) ?_
 ·exact key
 ·simp only [eD]
  obtain ⟨hr,hc,_⟩:=hm.ent _ (List.getElem_mem hj)
  have hv:=b1j (hm.ent _ (List.getElem_mem hj))
  have hn:=mU β R (l.take j) T
  have hrow:atL (kv R) l[j].Row=some (R.getD l[j].Row.toNat 0).1:=by
   have:=sq (l:=R) (j:=l[j].Row.toNat) om
   rwa [Int.toNat_of_nonneg hr.1] at this
  rw [brd om,bO hj,obs,brd hc.1,brd (by rw [aP,hn];omega),a40 om,obs,hrow,obs,show Ext.mk β.1.A β.1.B=β.1 from rfl,dw β.2 (Subtype.property _),obs,w5 (nC _ _) hv,obs,
   j7 (Subtype.property _) (a95 _ _),obs,brd hc.1,brd (by rw [aP,hn];omega),obs,aa _ om om,a3f, ←z9 hv,cm hj,List.foldl_append]
  show some (Sum.inl ((kv _).set l[j].Col.toNat ((List.foldl (btS β R) T (l.take j)).getD l[j].Col.toNat 0+β*R.getD l[j].Row.toNat 0*kF l[j].Value).1,_))=_
  rw [a9x];rfl
 ·simp only [eD]
  rw [brn om,decide_eq_false om,List.take_length]
end Go.AI.Fn
set_option linter.unusedVariables false
set_option linter.unusedSimpArgs false
namespace Go.AI.Fn
def b4O (out:List K) (p:K):List K:=out.map (fun a=>a*(1-p))++out.map (fun a=>a*p)
def eqK (P:List K):List K:=P.foldl b4O [1]
theorem b5F (out:List K) (p:K):eqS (kv out) p.1=kv (b4O out p):=by
 simp only [eqS,kv,b4O,List.map_append,List.map_map];rfl
theorem a6S: ∀(P out:List K),(kv P).foldl eqS (kv out)=kv (P.foldl b4O out)
 |[],out=>rfl
 |p::P,out=>by
  show (kv P).foldl eqS (eqS (kv out) p.1)=_
  rw [b5F,a6S P];rfl
theorem P6 (P:List K):eqT (kv P)=kv (eqK P):=a6S P [1]
theorem b2l (P:List K):(eqK P).length=2^P.length:=by
 have:=yU (kv P)
 rw [P6,aP,aP] at this;exact this
variable {kind:Nat} {bh:List K→Source→Source}
end Go.AI.Fn
set_option linter.unusedVariables false
set_option linter.unusedSimpArgs false
namespace Go.AI.Fn
theorem a3E (l:List K) (j:Nat):(kv l).take j=kv (l.take j):=by simp [kv]
theorem a2T: ∀k:Nat,k≤9→1≤2^k∧2^k≤512:=by decide
end Go.AI.Fn
set_option linter.unusedVariables false
set_option linter.unusedSimpArgs false
namespace Go.AI.Fn
abbrev Tx:=List UInt8
def SX (t:Tx):Tx:=0::t
def KT (a b:Tx):Tx:=1::(a++b)
def hL (t:Tx):Tx:=H (SX t)
def hN (a b:Tx):Tx:=H (KT a b)
theorem a7E {l:List Tx} {k:Nat} (h:k<l.length):atL l (k:Int)=some (l.getD k []):=by simp [atL,h]
theorem SB {t:Tx} (h:t.length≤1000000):uA t=some (SX t):=by
 unfold uA;rw [aC (by simp only [List.length_cons,List.length_nil];omega)];rfl
theorem FT {a b:Tx} (ha:a.length≤1000000) (hb:b.length≤1000000):pk a b=some (KT a b):=by
 unfold pk
 rw [aC (by simp only [List.length_cons,List.length_nil];omega),aC (by simp only [List.length_append,List.length_cons,List.length_nil];omega)];rfl
theorem a6q {t:Tx} (h:t.length≤1000000):xr t=some (hL t):=by
 unfold xr
 rw [aC (by simp only [List.length_cons,List.length_nil];omega),oN (by simp only [List.length_append,List.length_cons,List.length_nil];omega),obs];rfl
def Hs (l:List Tx):Prop:= ∀x∈l,x.length=32
theorem Hs.getD {l:List Tx} (h:Hs l) {k:Nat} (hk:k<l.length):(l.getD k []).length=32:=by simp [hk];exact h _ (List.getElem_mem hk)
theorem oc {α:Type} (f:Nat→α) (k:Nat):(List.range (k+1)).map f=(List.range k).map f++[f k]:=by rw [List.range_succ,List.map_append];rfl
theorem a7S (i j:Nat):i/2^j/2=i/2^(j+1):=by rw [Nat.div_div_eq_div_mul,Nat.pow_succ]
theorem a4E (q:Nat) (h:q≤1000000):IntKind.wrap .i64 (((q:Nat):Int)/2)=((q/2:Nat):Int):=by
 rw [aa _ om om];omega
end Go.AI.Fn
set_option linter.unusedVariables false
set_option linter.unusedSimpArgs false
namespace Go.AI.Fn
def kt (i:Nat) (leaf:Tx) (path:List Tx):Nat→Tx
 |0=>SX leaf
 |j+1=>if i/2^j%2=1 then KT (path.getD j []) (H (kt i leaf path j)) else KT (H (kt i leaf path j)) (path.getD j [])
def xB (i:Nat) (leaf:Tx) (path:List Tx) (j:Nat):List Tx:=(List.range (j+1)).map (kt i leaf path)
theorem oq (i:Nat) (leaf:Tx) (path:List Tx) (j:Nat):(xB i leaf path j).length=j+1:=by simp [xB]
theorem a02 {i:Nat} {leaf:Tx} {path:List Tx} {j m:Nat} (h:m≤j):atL (xB i leaf path j) (m:Int)=some (kt i leaf path m):=by
 rw [bO (by rw [oq];omega)];simp [xB]
theorem a4e (i j:Nat):IntKind.wrap .i64 (((i/2^j:Nat):Int).tdiv 2)=((i/2^(j+1):Nat):Int)∨1000000<i:=by
 by_cases h:i≤1000000
 ·left
  rw [mI _ _ (Int.natCast_nonneg _),a4E _ (Nat.le_trans (Nat.div_le_self _ _) h),a7S]
 ·right;omega
theorem a6i {l:List Tx} (h:Hs l):(l.any fun x=> !decide (x.length=32))=false:=by
 rw [List.any_eq_false];intro x hx;simp [h x hx]
theorem b5I {path:List Tx} (hl:path.length≤1000) (hh:Hs path):aX path=some false:=by
 unfold aX bJ
 rw [tA (step:=bt path ((path.length:Nat):Int)) (p:=fun x=> !decide (x.length=32)) (f:=yl) om (fun x _=>by unfold yl;rw [vl];rfl) (fun t=>rfl),a6i hh]
end Go.AI.Fn
set_option linter.unusedVariables false
set_option linter.unusedSimpArgs false
namespace Go.AI.Fn
theorem b8V: ∀k:Nat,k≤9→J1 ((2^k:Nat):Int)=some (k:Int)
 |0,_=>rfl
 |1,_=>rfl
 |2,_=>rfl
 |3,_=>rfl
 |4,_=>rfl
 |5,_=>rfl
 |6,_=>rfl
 |7,_=>rfl
 |8,_=>rfl
 |9,_=>rfl
theorem c05 {k:Nat} (h:k≤9):yy ((2^k:Nat):Int)=some (k:Int):=by
 unfold yy
 have key:Loop (io ((2^k:Nat):Int)) 0=some ((k:Int),false):=
  aA (step:=io ((2^k:Nat):Int)) (fun j=>(j:Int)) k (fun j hj=>by
   have hp:2^j<2^k:=Nat.pow_lt_pow_right om hj
   simp only [io]
   rw [cN _ om om,brd om,Nx om,brd om,aa _ om om];rfl) (by
   simp only [io]
   rw [cN _ om om,brd om,Nx om,brn om,decide_eq_false om])
 rw [key];rfl
def fpK (k i:Nat) (a b r:K):K:=(a+b)*kF (iF 2)+r*(a-b)*(kF (iF 2)*kF (iF (pF (Nj k) i)))
theorem Lx (a:Int):okF (iF a):=Nl _ _
theorem b9I:okF 2:=⟨by decide,by decide⟩
theorem R4 {k i:Nat} (a b r:K) (hk:k≤9) (hi:i≤1000):ko ((2^k:Nat):Int) i a.1 b.1 r.1=some (fpK k i a b r).1:=by
 unfold ko
 rw [zJ b9I,obs,b8V k hk,obs,a4I om,obs,Pn (YV k) om om,obs,j7 a.2 b.2,obs,w5 (Ty _ _) (Lx 2),obs,nk a.2 b.2,obs,
  dw r.2 (um _ _),obs,zJ (Nl _ _),obs,lV (Lx 2) (Lx _),obs,w5 (nC _ _) (lY _ _),obs,j7 (a95 _ _) (a95 _ _),obs,Int.toNat_natCast,a3f,a3f, ←z9 (Lx 2), ←z9 (lY _ _),b0T];rfl
theorem b3o: ∀m:Nat,m≤9→ ∀t:Nat,t≤m→aM .i64 ((2^m:Nat):Int) (t:Int)=((2^(m-t):Nat):Int):=by decide+kernel
theorem b8M (a b:List K):kv (a++b)=kv a++kv b:=by simp [kv]
end Go.AI.Fn
set_option linter.unusedVariables false
set_option linter.unusedSimpArgs false
namespace Go.AI.Fn
theorem a6o {k i:Nat} (a b r:K) (hk:k≤9) (hi:i≤1000):kR ((2^k:Nat):Int) i a.1 b.1 r.1=some (fpK k i a b r).1:=by
 unfold kR jh
 rw [c05 hk,obs,a5U om,obs,Q9 (YV k) om om,obs,zm b9I,obs,obs,iI a.2 b.2,obs,Ib,obs,dl (Ty _ _) (a3p (Lx 2)),obs,E8 a.2 b.2,obs,
  zm (Nl _ _),obs,obs,qR (Lx 2) (Lx _),obs,Ib,obs,dl (um _ _) (a3p (lY _ _)),obs,dl r.2 (nC _ _),obs,iI (nC _ _) (nC _ _),obs,Int.toNat_natCast, ←z9 (Lx 2), ←z9 (lY _ _),b0T]
 have:(a+b)*kF (iF 2)+r*((a-b)*(kF (iF 2)*kF (iF (pF (Nj k) i))))=fpK k i a b r:=by unfold fpK;exact kg
 rw [←this];rfl
theorem a3W (k:Nat) (hk:k+1≤9):IntKind.wrap .i64 (((2^(k+1):Nat):Int).tdiv 2)=((2^k:Nat):Int):=by
 have hp:=a2T (k+1) hk
 have hs:2^(k+1)=2*2^k:=by rw [Nat.pow_succ];omega
 rw [mI _ _ om,aa _ om om];omega
theorem ZN {s:Source} {k:Int} (h:Few s k) (hk:k≤999890) {n:Nat} (hn:n≤100) {m:Int} (h1:1≤m):rq s (n:Int) m=some (drS s n,plM (drL s n) m):=by
 unfold rq
 rw [JZ h hk om,obs]
 have:=YH (l:=drL s n) (m:=m) (c:=s.Script) (c2:=s.At) (c3:=s.State) (c4:=s.Count) (c5:=0) (c6:=[]) (c7:=0) (c8:=(drS s n).Script) (c9:=(drS s n).At) (c10:=(drS s n).State) (c11:=(drS s n).Count) (by rw [lh];omega) (Qw h hk om) om
 rw [lh] at this
 rw [this,obs]
end Go.AI.Fn
set_option linter.unusedVariables false
set_option linter.unusedSimpArgs false
namespace Go.AI.Fn
end Go.AI.Fn
set_option linter.unusedVariables false
set_option linter.unusedSimpArgs false
namespace Go.AI.Fn
end Go.AI.Fn
set_option linter.unusedVariables false
set_option linter.unusedSimpArgs false
namespace Go.AI.Fn
variable {kind:Nat}
theorem Td {c7 c8 c9 c11:Int} {c10:List UInt8} (hkd:kind=1∨kind=2): ∀(R pre:List (List K)) (c:K) (s:Source) (k:Int) (P:List Ext),Few s k→k+3*R.length≤999990→P.length+R.length≤999990→pre.length+R.length≤999990→
 ((vfM kind bv0 R pre.length c s).1=0→Loop (cu (kind:Int) (kvv (pre++R)) ((pre++R).length:Int) c7 c8 c9 c10 c11) (P,(pre.length:Int),c.1.A,c.1.B,s.Script,s.At,s.State,s.Count)=
   some (.inr (.inr (P++kv (vfM kind bv0 R pre.length c s).2.1,((pre++R).length:Int),false,(vfM kind bv0 R pre.length c s).2.2.1.1.A,(vfM kind bv0 R pre.length c s).2.2.1.1.B,(vfM kind bv0 R pre.length c s).2.2.2.Script,(vfM kind bv0 R pre.length c s).2.2.2.At,(vfM kind bv0 R pre.length c s).2.2.2.State,(vfM kind bv0 R pre.length c s).2.2.2.Count))))∧
 ((vfM kind bv0 R pre.length c s).1≠0→((vfM kind bv0 R pre.length c s).1=18∧ ∃P' A B C D E F S0 S1 S2 S3,Loop (cu (kind:Int) (kvv (pre++R)) ((pre++R).length:Int) c7 c8 c9 c10 c11) (P,(pre.length:Int),c.1.A,c.1.B,s.Script,s.At,s.State,s.Count)=
   some (.inl (P',[],A,B,C,D,E,F,S0,S1,S2,S3))∧Source.mk S0 S1 S2 S3=(vfM kind bv0 R pre.length c s).2.2.2)∨
   ((vfM kind bv0 R pre.length c s).1=10∧ ∃P' A B C D E F S0 S1 S2 S3,Loop (cu (kind:Int) (kvv (pre++R)) ((pre++R).length:Int) c7 c8 c9 c10 c11) (P,(pre.length:Int),c.1.A,c.1.B,s.Script,s.At,s.State,s.Count)=
   some (.inr (.inl (P',[],A,B,C,D,E,F,S0,S1,S2,S3)))∧Source.mk S0 S1 S2 S3=(vfM kind bv0 R pre.length c s).2.2.2))
 |[],pre,c,s,k,P,hf,hk,hP,hp=>by
  refine ⟨fun _=>bA ?_,fun h=>absurd rfl h⟩
  simp only [cu,List.append_nil]
  rw [brn om,decide_eq_false om]
  simp [vfM,kv]
 |g::R,pre,c,s,k,P,hf,hk,hP,hp=>by
  rw [List.length_cons] at hk hP hp
  have hat:atL (kvv (pre++g::R)) (pre.length:Int)=some (kv g):=by rw [UV (by simp)];simp
  have hlt:(pre.length:Int)<((pre++g::R).length:Int):=by rw [List.length_append,List.length_cons];omega
  have hd:rp (kind:Int)=some ((kind+1:Nat):Int):=by unfold rp;rw [aa _ om om];rfl
  rw [vfM]
  by_cases h1:g.length=kind+2
  ·by_cases h2:g.getD 0 0+g.getD 1 0=c
   ·rw [if_pos h1,if_pos h2]
    have ih:=Td (c7:=c7) (c8:=c8) (c9:=c9) (c10:=c10) (c11:=c11) hkd R (pre++[g]) (lnK g (rdM s g)) (nsM s g) (k+2) (P++[(rdM s g).1]) (H0 hf om g) om (by rw [List.length_append,List.length_singleton];omega) (by rw [List.length_append,List.length_singleton];omega)
    rw [List.append_assoc,List.singleton_append,List.length_append,List.length_singleton] at ih
    have step:cu (kind:Int) (kvv (pre++g::R)) ((pre++g::R).length:Int) c7 c8 c9 c10 c11 (P,(pre.length:Int),c.1.A,c.1.B,s.Script,s.At,s.State,s.Count)=
     some (.inl (P++[(rdM s g).1],((pre.length+1:Nat):Int),(lnK g (rdM s g)).1.A,(lnK g (rdM s g)).1.B,(nsM s g).Script,(nsM s g).At,(nsM s g).State,(nsM s g).Count)):=by
     simp only [cu]
     rw [brd hlt,hat,obs,hd,obs,aa _ om om,cZ (by rw [aP];omega),atK (i:=0) (j:=0) rfl om,obs,atK (i:=1) (j:=1) rfl om,obs,iI (Subtype.property _) (Subtype.property _),obs]
     rw [show eA (g.getD 0 0).1 (g.getD 1 0).1=c.1 from congrArg Subtype.val h2,bre rfl,bre rfl,show Source.mk s.Script s.At s.State s.Count=s from rfl,Pg hf.1 om,obs,b5x hf,obs]
     dsimp only
     rw [Tw _ om,obs,aC (by rw [List.length_append,List.length_singleton];omega),aa _ om om];rfl
    refine ⟨fun h=> ?_,fun h=> ?_⟩
    ·rw [bn step,ih.1 h]
     simp [kv,bv0]
    ·rcases ih.2 h with ⟨q,P',A,B,C,D,E,F,S0,S1,S2,S3,e,e2⟩|⟨q,P',A,B,C,D,E,F,S0,S1,S2,S3,e,e2⟩
     ·exact .inl ⟨q,P',A,B,C,D,E,F,S0,S1,S2,S3,by rw [bn step,e],e2⟩
     ·exact .inr ⟨q,P',A,B,C,D,E,F,S0,S1,S2,S3,by rw [bn step,e],e2⟩
   ·rw [if_pos h1,if_neg h2]
    refine ⟨fun h=>absurd (show (10:Int)=0 from h) (by decide),fun _=> .inr ⟨rfl,P,c.1.A,c.1.B,s.Script,s.At,s.State,s.Count,s.Script,s.At,s.State,s.Count,bA ?_,rfl⟩⟩
    simp only [cu]
    rw [brd hlt,hat,obs,hd,obs,aa _ om om,cZ (by rw [aP];omega),atK (i:=0) (j:=0) rfl om,obs,atK (i:=1) (j:=1) rfl om,obs,iI (Subtype.property _) (Subtype.property _),obs]
    rw [show eA (g.getD 0 0).1 (g.getD 1 0).1=(g.getD 0 0+g.getD 1 0).1 from rfl,Ec,if_neg h2]
  ·rw [if_neg h1]
   refine ⟨fun h=>absurd (show (18:Int)=0 from h) (by decide),fun _=> .inl ⟨rfl,P,c.1.A,c.1.B,s.Script,s.At,s.State,s.Count,s.Script,s.At,s.State,s.Count,bA ?_,rfl⟩⟩
   simp only [cu]
   rw [brd hlt,hat,obs,hd,obs,aa _ om om,brb (by rw [aP];omega)]
theorem L5 (hkd:kind=1∨kind=2) {R:List (List K)} {c:K} {s:Source} {k:Int} (hf:Few s k) (hk:k+3*R.length≤999990):
 ja (kind:Int) c.1 (kvv R) (R.length:Int) s=some (if (vfM kind bv0 R 0 c s).1=0 then (kv (vfM kind bv0 R 0 c s).2.1,(vfM kind bv0 R 0 c s).2.2.1.1,(vfM kind bv0 R 0 c s).2.2.2,0) else ([],e0,(vfM kind bv0 R 0 c s).2.2.2,(vfM kind bv0 R 0 c s).1)):=by
 have hk0:0≤k:=by have:=hf.2;have:=hf.1.4;omega
 have h:=Td (c7:=0) (c8:=0) (c9:=0) (c10:=[]) (c11:=0) hkd R [] c s k [] hf hk (by rw [List.length_nil];omega) (by rw [List.length_nil];omega)
 rw [List.nil_append,List.length_nil] at h
 unfold ja
 rw [Wo,cZ rfl]
 by_cases h0:(vfM kind bv0 R 0 c s).1=0
 ·rw [if_pos h0]
  have:=h.1 h0
  rw [show (((0:Nat):Int))=0 from rfl] at this
  rw [this];rfl
 ·rw [if_neg h0]
  rcases h.2 h0 with ⟨q,P',A,B,C,D,E,F,S0,S1,S2,S3,e,e2⟩|⟨q,P',A,B,C,D,E,F,S0,S1,S2,S3,e,e2⟩
  ·rw [show (((0:Nat):Int))=0 from rfl] at e
   rw [e,q, ←e2];rfl
  ·rw [show (((0:Nat):Int))=0 from rfl] at e
   rw [e,q, ←e2];rfl
end Go.AI.Fn
set_option linter.unusedVariables false
set_option linter.unusedSimpArgs false
namespace Go.AI.Fn
variable {v ρ:Nat} {t P:List K} {s:Source} {k:Int}
end Go.AI.Fn
set_option linter.unusedVariables false
set_option linter.unusedSimpArgs false
namespace Go.AI.Fn
end Go.AI.Fn
set_option linter.unusedVariables false
set_option linter.unusedSimpArgs false
namespace Go.AI.Fn
def eaK:List K→List K→K→K
 |x::A,b::B,c=>eaK A B (c*(x*b+(1-x)*(1-b)))
 |_,_,c=>c
def sh (a b:K):List UInt8:=[a.1,b.1].flatMap e8
def a4R (due:Option K) (x:K):Prop:= ∃d,due=some d∧x≠d
noncomputable instance b8e (due:Option K) (x:K):Decidable (a4R due x):=Classical.propDecidable _
noncomputable def qcK (l:K):Nat→List (List UInt8)→List K→List (List (List UInt8))→List K→Nat→Option K→Int
 |m,rt::rts,a::b::prs,p::pths,r::P,k,due=>
  if (H (kt (k%2^(m-1)) (sh a b) p (m-1))==rt)=false then 9
  else if a4R due (if 2^(m-1)≤k then b else a) then 12
  else qcK l (m-1) rts prs pths P (k%2^(m-1)) (some (fpK m (k%2^(m-1)) a b r))
 |_,_,_,_,_,_,due=>if due=some l then 0 else 13
noncomputable def qsC (l:K) (m:Nat) (rts:List (List UInt8)) (D:List K):List Int→List aj→Int
 |p::ps,q::qs=>if qcK l m rts (q.Pairs.map toK) q.Paths D p.toNat none=0 then qsC l m rts D ps qs else qcK l m rts (q.Pairs.map toK) q.Paths D p.toNat none
 |_,_=>0
def bvO (v:Nat) (rts:List (List UInt8)) (j:Nat) (s:Source):Source:=if j+1<v then tkM s (rts.getD j []) else s
theorem Uj (v:Nat) (rts:List (List UInt8)):b8I (bvO v rts):=fun j s k h hk=>by
 unfold bvO;split
 ·exact h.take _
 ·exact h.mono om
noncomputable def chC (m bits nq:Nat) (root:List UInt8) (P:List K) (rts:List (List UInt8)) (l:K) (nonce:Int) (qs:List aj) (q:Int×List K×K×Source):Int:=
 if q.1=0 then
  if l*eaK q.2.1 P 1=q.2.2.1 then
   if Qm (rsM q.2.2.2 [l]).State bits nonce=true then qsC l m (root::rts) q.2.1 (plM (drL (tkM (rsM q.2.2.2 [l]) (eJ nonce)) nq) ((2^(m-1):Nat):Int)) qs
   else 14
  else 11
 else q.1
def chS (nq:Nat) (l:K) (nonce:Int) (q:Int×List K×K×Source):Source:=drS (tkM (rsM q.2.2.2 [l]) (eJ nonce)) nq
variable {v ρ:Nat} {t P:List K} {s:Source} {k:Int}
end Go.AI.Fn
set_option linter.unusedVariables false
set_option linter.unusedSimpArgs false
namespace Go.AI.Fn
theorem c0C: ∀i:Nat,i<512→ ∀j:Nat,j<9→(bw .i64 (aM .i64 (i:Int) (j:Int)) 1==1)=decide (i/2^j%2=1):=by decide+kernel
theorem b83 {i k:Nat} {leaf:Tx} {path:List Tx} (hi:i<512) (hk:k≤9) (hl:leaf.length≤1000) (hp:path.length=k) (hh:Hs path):IX i leaf path=some (xB i leaf path k):=by
 unfold IX
 rw [SB om,obs,hp]
 have key:Loop (km i path k) ([SX leaf],0)=some (xB i leaf path k,(k:Int),false):=by
  refine aA (step:=km i path k) (fun j=>(xB i leaf path j,(j:Int))) k (fun j hj=> ?_) ?_
  ·have hx:=hh.getD (k:=j) om
   have hH:=AO (kt i leaf path j)
   simp only [km]
   have e:=a02 (i:=i) (leaf:=leaf) (path:=path) (Nat.le_refl j)
   rw [bO (by rw [oq];omega),Option.some.injEq] at e
   have e2:(xB i leaf path j)[((j:Nat):Int).toNat]? =some (kt i leaf path j):=by
    rw [Int.toNat_natCast,rF (by rw [oq];omega),e]
   have hw:(kt i leaf path j).length≤100000000:=by
    cases j with
    |zero=>simp only [kt,SX,List.length_cons];omega
    |succ j=>
     have hx':=hh.getD (k:=j) om
     have hH':=AO (kt i leaf path j)
     simp only [kt]
     split<;>simp only [KT,List.length_cons,List.length_append]<;>omega
   rw [brd om,a7E om,obs,brd om,brd (by rw [oq];omega),e2,obs,Lb hw,obs,brd om,c0C i hi j om]
   by_cases c:i/2^j%2=1
   ·rw [brd c,FT om om,obs,aC (by simp only [List.length_append,oq,List.length_singleton];omega),aa _ om om,xB,xB,oc _ (j+1)]
    simp only [kt,if_pos c];rfl
   ·rw [brn c,FT om om,obs,aC (by simp only [List.length_append,oq,List.length_singleton];omega),aa _ om om,xB,xB,oc _ (j+1)]
    simp only [kt,if_neg c];rfl
  ·simp only [km]
   rw [brn om,decide_eq_false om]
 rw [key];rfl
theorem up9 {i k:Nat} {leaf:Tx} {path:List Tx} (hi:i<512) (hk:k≤9) (hl:leaf.length≤1000) (hp:path.length=k) (hh:Hs path):Ja i leaf path=some (xB i leaf path k,H (kt i leaf path k)):=by
 unfold Ja
 rw [aC (by simp only [List.length_singleton];omega),a6q om,obs]
 have key:Loop (kr path) ([[0]++leaf],(i:Int),hL leaf,0)=some (xB i leaf path k,((i/2^k:Nat):Int),H (kt i leaf path k),(k:Int),false):=by
  have key:=aA (step:=kr path) (fun j=>(xB i leaf path j,((i/2^j:Nat):Int),H (kt i leaf path j),(j:Int))) k (e:=(xB i leaf path k,((i/2^k:Nat):Int),H (kt i leaf path k),(k:Int),false)) (fun j hj=> ?_) ?_
  ·have e0:i/2^0=i:=by simp
   rw [e0] at key
   exact key
  ·have hx:=hh.getD (k:=j) om
   have hH:=AO (kt i leaf path j)
   have hq:IntKind.wrap .i64 (((i/2^j:Nat):Int).tdiv 2)=((i/2^(j+1):Nat):Int):=(a4e i j).resolve_right om
   have hm:(((i/2^j:Nat):Int).tmod 2==1)=decide (i/2^j%2=1):=by
    rw [cn _ _ (Int.natCast_nonneg _)]
    generalize i/2^j=q
    by_cases c:q%2=1
    ·rw [decide_eq_true c];simp;omega
    ·rw [decide_eq_false c];simp;omega
   simp only [kr]
   rw [brd om,aC (by simp only [List.length_singleton];omega),a7E om,obs,aC (by simp only [List.length_append,List.length_singleton];omega),hm,hq]
   by_cases c:i/2^j%2=1
   ·rw [brd c,obs,aC (by simp only [List.length_singleton];omega),aC (by simp only [List.length_append,List.length_singleton];omega),aC (by simp only [List.length_append,oq,List.length_singleton];omega),
     oN (by simp only [List.length_append,List.length_singleton];omega),obs,aa _ om om,xB,xB,oc _ (j+1)]
    simp only [kt,if_pos c,KT,List.singleton_append,List.cons_append,List.nil_append,iJ]
   ·rw [brn c,aC (by simp only [List.length_append,oq,List.length_singleton];omega),
     oN (by simp only [List.length_append,List.length_singleton];omega),obs,aa _ om om,xB,xB,oc _ (j+1)]
    simp only [kt,if_neg c,KT,List.singleton_append,List.cons_append,List.nil_append,iJ]
  ·simp only [kr]
   rw [brn om,decide_eq_false om]
 rw [key];rfl
theorem b6H {root:Tx} {i k:Nat} {leaf:Tx} {path:List Tx} (hi:i<512) (hk:k≤9) (hl:leaf.length≤64) (hp:path.length=k) (hh:Hs path):DJ root ((2^k:Nat):Int) i leaf path=some (H (kt i leaf path k)==root):=by
 unfold DJ
 have hw:(kt i leaf path k).length≤100000000:=by
  cases k with
  |zero=>simp only [kt,SX,List.length_cons];omega
  |succ j=>
   have hx':=hh.getD (k:=j) om
   have hH':=AO (kt i leaf path j)
   simp only [kt]
   split<;>simp only [KT,List.length_cons,List.length_append]<;>omega
 rw [brn om,b8V k hk,obs,cZ om,b5I om hh,obs,aw,b83 hi hk om hp hh,obs,oq,aa _ om om,show (((k+1:Nat):Int))-1=(k:Int) by omega,a02 (Nat.le_refl k),obs,Lb hw];rfl
theorem Oy: ∀k:Nat,k≤9→aD .i64 1 (k:Int)=((2^k:Nat):Int):=by decide+kernel
theorem b7x {root:Tx} {i k:Nat} {leaf:Tx} {path:List Tx} (hi:i<512) (hk:k≤9) (hl:leaf.length≤64) (hp:path.length=k) (hh:Hs path):oQ root ((2^k:Nat):Int) i leaf path=some (H (kt i leaf path k)==root):=by
 unfold oQ
 have hm:mn 20 ((path.length:Nat):Int)=(k:Int):=by rw [hp];simp only [mn];omega
 rw [brn om,hm,cN _ om om,brd om,Oy k hk,cZ rfl]
 have key:Loop (gu root i leaf path) 0=some (.inr (((path.length:Nat):Int),false)):=
  aA (step:=gu root i leaf path) (fun j=>(j:Int)) path.length (fun j hj=>by
   have hx:=hh.getD (k:=j) om
   simp only [gu]
   rw [brd om,a7E om,obs,cZ om,aa _ om om];rfl) (by
   simp only [gu]
   rw [brn om,decide_eq_false om])
 rw [key,obs,mN,up9 hi hk om hp hh];rfl
end Go.AI.Fn
set_option linter.unusedVariables false
set_option linter.unusedSimpArgs false
namespace Go.AI.Fn
end Go.AI.Fn
set_option linter.unusedVariables false
set_option linter.unusedSimpArgs false
namespace Go.AI.Fn
end Go.AI.Fn
set_option linter.unusedVariables false
set_option linter.unusedSimpArgs false
namespace Go.AI.Fn
variable {v ρ:Nat} {t P:List K} {s:Source} {k:Int}
end Go.AI.Fn
set_option linter.unusedVariables false
set_option linter.unusedSimpArgs false
namespace Go.AI.Fn
def QSh:Nat→List (List UInt8)→List K→List (List (List UInt8))→List K→Prop
 |_,[],[],[],[]=>True
 |m,_::rts,_::_::prs,p::pths,_::D=>1≤m∧p.length=m-1∧Hs p∧QSh (m-1) rts prs pths D
 |_,_,_,_,_=>False
def xW:Option K→Ext
 |none=>e0
 |some d=>d.1
theorem jP {α:Type} {pre l:List α} {x:α} {i:Int} (h:i=(pre.length:Int)):atL (pre++x::l) i=some x:=by subst h;rw [bO (by simp)];simp
theorem xc (pre l:List K):kv (pre++l)=kv pre++kv l:=b8M pre l
theorem TC {l:K} {V:Int} {c:List (List Ext)} {c2:List (List UInt8)} {c3 c4 c5:Int} {c6:List aj}: ∀(rts:List (List UInt8)) (prs:List K) (pths:List (List (List UInt8))) (D:List K) (m:Nat) (preR:List (List UInt8)) (preP:List K) (preT:List (List (List UInt8))) (preD:List K) (k:Nat) (due:Option K),
 QSh m rts prs pths D→m≤9→preP.length=2*preR.length→preT.length=preR.length→preD.length=preR.length→V=((preR.length+rts.length:Nat):Int)→preR.length+rts.length≤100→k<2^9→(due=none↔preR.length=0)→(rts=[]→due≠none)→
 (Loop (gx (preR++rts) V (kv (preD++D)) c c2 c3 c4 c5 c6 (kv (preP++prs)) (preT++pths)) (((2^m:Nat):Int),(k:Int),(preR.length:Int),(xW due).A,(xW due).B)).bind (alt (fun e_2=>some e_2.1) (fun e_3=>br (e_3.2.2.2.2.1==l.1.A) (br (e_3.2.2.2.2.2==l.1.B) (some 0) (some 13)) (some 13)))=
  some (qcK l m rts prs pths D k due)
 |[],prs,pths,D,m,preR,preP,preT,preD,k,due,h,hm,h1,h2,h3,hV,hb,hk,hd,hn=>by
  match prs,pths,D,h with
  |[],[],[],_=>
   cases due with
   |none=>exact absurd rfl (hn rfl)
   |some d=>
    rw [bA (e:= .inr (((2^m:Nat):Int),(k:Int),(preR.length:Int),false,d.1.A,d.1.B)) (by
     simp only [gx,xW]
     rw [brn (by rw [hV,List.length_nil];omega),decide_eq_false (by rw [hV,List.length_nil];omega)])]
    rw [obs,mN]
    dsimp only
    rw [Ec]
    show _=some (if some d=some l then (0:Int) else 13)
    by_cases e:d=l
    ·rw [if_pos e,if_pos (by rw [e])]
    ·rw [if_neg e,if_neg (fun h=>e (Option.some.inj h))]
 |rt::rts,prs,pths,D,m,preR,preP,preT,preD,k,due,h,hm,h1,h2,h3,hV,hb,hk,hd,hn=>by
  match prs,pths,D,h with
  |a::b::prs,p::pths,r::D,⟨hm1,hpl,hph,hq⟩=>
   obtain ⟨q,rfl⟩: ∃q,m=q+1:=⟨m-1,by omega⟩
   rw [List.length_cons] at hV hb
   have hp:=a2T (q+1) hm
   have hs:2^(q+1)=2*2^q:=by rw [Nat.pow_succ];omega
   have hh:=a3W q hm
   have hat:k%2^q<2^q:=Nat.mod_lt _ om
   have hmod:(k:Int).tmod ((2^q:Nat):Int)=((k%2^q:Nat):Int):=by rw [cn _ _ om];omega
   have hk2:k%2^q<2^9:=Nat.lt_of_lt_of_le hat om
   have hcheck:oQ rt ((2^q:Nat):Int) ((k%2^q:Nat):Int) (sh a b) p=some (H (kt (k%2^q) (sh a b) p q)==rt):=b7x om om (by rw [sh,J3];simp) om hph
   have ih:=TC (l:=l) (V:=V) (c:=c) (c2:=c2) (c3:=c3) (c4:=c4) (c5:=c5) (c6:=c6) rts prs pths D q (preR++[rt]) (preP++[a,b]) (preT++[p]) (preD++[r]) (k%2^q) (some (fpK (q+1) (k%2^q) a b r)) hq om
    (by simp only [List.length_append,List.length_cons,List.length_nil];omega) (by simp only [List.length_append,List.length_cons,List.length_nil];omega) (by simp only [List.length_append,List.length_cons,List.length_nil];omega) (by rw [hV];simp only [List.length_append,List.length_cons,List.length_nil];omega) (by simp only [List.length_append,List.length_cons,List.length_nil];omega) hk2 (by simp) (by simp)
   simp only [List.append_assoc,List.singleton_append,List.cons_append,List.nil_append,List.length_append,List.length_singleton] at ih
   have hR:atL (preR++rt::rts) (preR.length:Int)=some rt:=jP rfl
   have hT:atL (preT++p::pths) (preR.length:Int)=some p:=jP om
   have hD:atL (kv (preD++r::D)) (preR.length:Int)=some r.1:=by rw [xc];exact jP (by rw [aP];omega)
   have hA:atL (kv (preP++a::b::prs)) (2*(preR.length:Int))=some a.1:=by rw [xc];exact jP (by rw [aP];omega)
   have hB:atL (kv (preP++a::b::prs)) (2*(preR.length:Int)+1)=some b.1:=by
    rw [show preP++a::b::prs=(preP++[a])++b::prs by simp,xc];exact jP (by rw [aP,List.length_append,List.length_singleton];omega)
   have hstep:gx (preR++rt::rts) V (kv (preD++r::D)) c c2 c3 c4 c5 c6 (kv (preP++a::b::prs)) (preT++p::pths) (((2^(q+1):Nat):Int),(k:Int),(preR.length:Int),(xW due).A,(xW due).B)=
    if (H (kt (k%2^q) (sh a b) p q)==rt)=false then some (.inr (.inl (9,(xW due).A,(xW due).B,a.1.A,a.1.B,b.1.A,b.1.B)))
    else if a4R due (if 2^q≤k then b else a) then some (.inr (.inl (12,(xW due).A,(xW due).B,a.1.A,a.1.B,b.1.A,b.1.B)))
    else some (.inl (((2^q:Nat):Int),((k%2^q:Nat):Int),((preR.length+1:Nat):Int),(fpK (q+1) (k%2^q) a b r).1.A,(fpK (q+1) (k%2^q) a b r).1.B)):=by
    simp only [gx,hh]
    rw [brd om,brd om,aa (2*(preR.length:Int)) om om,hA,obs,aa (2*(preR.length:Int)+1) om om,hB,obs,hR,obs,PS (by simp),obs,hT,obs,hmod,show ([a.1,b.1]:List Ext).flatMap e8=sh a b from rfl,hcheck,obs]
    cases hc:(H (kt (k%2^q) (sh a b) p q)==rt) with
    |false=>rw [if_pos rfl,Bool.not_false,bF]
    |true=>
     rw [if_neg (by simp),Bool.not_true,aw]
     have hpair:=a6o (k:=q+1) (i:=k%2^q) a b r hm om
     cases due with
     |none=>
      rw [brn (by have:=hd.1 rfl;omega),hD,obs,hpair,obs,aa _ om om,if_neg (by rintro ⟨d,h,_⟩;cases h)];rfl
     |some d=>
      rw [brd (by have:preR.length≠0:=fun e=>by cases hd.2 e
                  omega)]
      by_cases hlow:k<2^q
      ·have hown:(if 2^q≤k then b else a)=a:=if_neg om
       rw [hown,brd om,decide_eq_true (show (k:Int)<((2^q:Nat):Int) by omega)]
       show br (a.1.A==d.1.A) (br (a.1.B==d.1.B) _ _) _=_
       rw [Ec]
       by_cases e:a=d
       ·rw [if_pos e,if_neg (by rintro ⟨x,h,h'⟩;cases h;exact h' e),hD,obs,hpair,obs,aa _ om om];rfl
       ·rw [if_neg e,if_pos ⟨d,rfl,e⟩]
      ·have hown:(if 2^q≤k then b else a)=b:=if_pos om
       rw [hown,brn om,decide_eq_false (show ¬(k:Int)<((2^q:Nat):Int) by omega)]
       show br (b.1.A==d.1.A) (br (b.1.B==d.1.B) _ _) _=_
       rw [Ec]
       by_cases e:b=d
       ·rw [if_pos e,if_neg (by rintro ⟨x,h,h'⟩;cases h;exact h' e),hD,obs,hpair,obs,aa _ om om];rfl
       ·rw [if_neg e,if_pos ⟨d,rfl,e⟩]
   rw [qcK,Nat.add_sub_cancel]
   by_cases hc:(H (kt (k%2^q) (sh a b) p q)==rt)=false
   ·rw [if_pos hc] at hstep ⊢
    rw [bA hstep,obs,jX]
   ·rw [if_neg hc] at hstep ⊢
    by_cases ho:a4R due (if 2^q≤k then b else a)
    ·rw [if_pos ho] at hstep ⊢
     rw [bA hstep,obs,jX]
    ·rw [if_neg ho] at hstep ⊢
     rw [bn hstep];exact ih
theorem T7 {l:K} {M:Nat} {V:Int} {c:List (List Ext)} {c2:List (List UInt8)} {c3 c4 c5:Int} {c6:List aj}: ∀(rts:List (List UInt8)) (prs:List K) (pths:List (List (List UInt8))) (D:List K) (m:Nat) (preR:List (List UInt8)) (preP:List K) (preT:List (List (List UInt8))) (preD:List K) (k:Nat) (due:Option K),
 QSh m rts prs pths D→M≤9→m+preR.length=M→preP.length=2*preR.length→preT.length=preR.length→preD.length=preR.length→V=((preR.length+rts.length:Nat):Int)→preR.length+rts.length≤100→k<2^9→(due=none↔preR.length=0)→(rts=[]→due≠none)→
 (Loop (cS (kv (preD++D)) ((2^M:Nat):Int) (preR++rts) V c c2 c3 c4 c5 c6 (kv (preP++prs)) (preT++pths)) ((k:Int),(preR.length:Int),(xW due).A,(xW due).B)).bind (alt (fun e_2=>some 9) (alt (fun e_3=>some 12) (fun e_4=>br (e_4.2.2.2.1==l.1.A) (br (e_4.2.2.2.2==l.1.B) (some 0) (some 13)) (some 13))))=
  some (qcK l m rts prs pths D k due)
 |[],prs,pths,D,m,preR,preP,preT,preD,k,due,h,hM,hm,h1,h2,h3,hV,hb,hk,hd,hn=>by
  match prs,pths,D,h with
  |[],[],[],_=>
   cases due with
   |none=>exact absurd rfl (hn rfl)
   |some d=>
    rw [bA (e:= .inr (.inr ((k:Int),(preR.length:Int),false,d.1.A,d.1.B))) (by
     simp only [cS,xW]
     rw [brn (by rw [hV,List.length_nil];omega),decide_eq_false (by rw [hV,List.length_nil];omega)])]
    rw [obs,mN,mN]
    dsimp only
    rw [Ec]
    show _=some (if some d=some l then (0:Int) else 13)
    by_cases e:d=l
    ·rw [if_pos e,if_pos (by rw [e])]
    ·rw [if_neg e,if_neg (fun h=>e (Option.some.inj h))]
 |rt::rts,prs,pths,D,m,preR,preP,preT,preD,k,due,h,hM,hm,h1,h2,h3,hV,hb,hk,hd,hn=>by
  match prs,pths,D,h with
  |a::b::prs,p::pths,r::D,⟨hm1,hpl,hph,hq⟩=>
   obtain ⟨q,rfl⟩: ∃q,m=q+1:=⟨m-1,by omega⟩
   rw [List.length_cons] at hV hb
   have hp:=a2T (q+1) om
   have hs:2^(q+1)=2*2^q:=by rw [Nat.pow_succ];omega
   have hsh:aM .i64 ((2^M:Nat):Int) (preR.length:Int)=((2^(q+1):Nat):Int):=by rw [b3o M hM preR.length om,show M-preR.length=q+1 by omega]
   have hh:=a3W q om
   have hat:k%2^q<2^q:=Nat.mod_lt _ om
   have hmod:(k:Int).tmod ((2^q:Nat):Int)=((k%2^q:Nat):Int):=by rw [cn _ _ om];omega
   have hk2:k%2^q<2^9:=Nat.lt_of_lt_of_le hat om
   have hcheck:DJ rt ((2^q:Nat):Int) ((k%2^q:Nat):Int) (sh a b) p=some (H (kt (k%2^q) (sh a b) p q)==rt):=b6H om om (by rw [sh,J3];simp) om hph
   have ih:=T7 (l:=l) (M:=M) (V:=V) (c:=c) (c2:=c2) (c3:=c3) (c4:=c4) (c5:=c5) (c6:=c6) rts prs pths D q (preR++[rt]) (preP++[a,b]) (preT++[p]) (preD++[r]) (k%2^q) (some (fpK (q+1) (k%2^q) a b r)) hq hM
    (by simp only [List.length_append,List.length_cons,List.length_nil];omega) (by simp only [List.length_append,List.length_cons,List.length_nil];omega) (by simp only [List.length_append,List.length_cons,List.length_nil];omega) (by simp only [List.length_append,List.length_cons,List.length_nil];omega) (by rw [hV];simp only [List.length_append,List.length_cons,List.length_nil];omega) (by simp only [List.length_append,List.length_cons,List.length_nil];omega) hk2 (by simp) (by simp)
   simp only [List.append_assoc,List.singleton_append,List.cons_append,List.nil_append,List.length_append,List.length_singleton] at ih
   have hR:atL (preR++rt::rts) (preR.length:Int)=some rt:=jP rfl
   have hT:atL (preT++p::pths) (preR.length:Int)=some p:=jP om
   have hD:atL (kv (preD++r::D)) (preR.length:Int)=some r.1:=by rw [xc];exact jP (by rw [aP];omega)
   have hA:atL (kv (preP++a::b::prs)) (2*(preR.length:Int))=some a.1:=by rw [xc];exact jP (by rw [aP];omega)
   have hB:atL (kv (preP++a::b::prs)) (2*(preR.length:Int)+1)=some b.1:=by
    rw [show preP++a::b::prs=(preP++[a])++b::prs by simp,xc];exact jP (by rw [aP,List.length_append,List.length_singleton];omega)
   have hstep:(H (kt (k%2^q) (sh a b) p q)==rt)=false∧(∃e,cS (kv (preD++r::D)) ((2^M:Nat):Int) (preR++rt::rts) V c c2 c3 c4 c5 c6 (kv (preP++a::b::prs)) (preT++p::pths) ((k:Int),(preR.length:Int),(xW due).A,(xW due).B)=some (.inr (.inl e)))∨
    (H (kt (k%2^q) (sh a b) p q)==rt)=true∧a4R due (if 2^q≤k then b else a)∧(∃e,cS (kv (preD++r::D)) ((2^M:Nat):Int) (preR++rt::rts) V c c2 c3 c4 c5 c6 (kv (preP++a::b::prs)) (preT++p::pths) ((k:Int),(preR.length:Int),(xW due).A,(xW due).B)=some (.inr (.inr (.inl e))))∨
    (H (kt (k%2^q) (sh a b) p q)==rt)=true∧ ¬a4R due (if 2^q≤k then b else a)∧cS (kv (preD++r::D)) ((2^M:Nat):Int) (preR++rt::rts) V c c2 c3 c4 c5 c6 (kv (preP++a::b::prs)) (preT++p::pths) ((k:Int),(preR.length:Int),(xW due).A,(xW due).B)=
     some (.inl (((k%2^q:Nat):Int),((preR.length+1:Nat):Int),(fpK (q+1) (k%2^q) a b r).1.A,(fpK (q+1) (k%2^q) a b r).1.B)):=by
    have hpair:=R4 (k:=q+1) (i:=k%2^q) a b r om om
    simp only [cS,hsh,hh]
    rw [brd om,hR,obs,brd om,brd om,aa (2*(preR.length:Int)) om om,hA,obs,aa (2*(preR.length:Int)+1) om om,hB,obs,FA (by simp),obs,hT,obs,hmod,show ([a.1,b.1]:List Ext).flatMap e8=sh a b from rfl,hcheck,obs]
    cases hc:(H (kt (k%2^q) (sh a b) p q)==rt) with
    |false=>exact .inl ⟨rfl,_,rfl⟩
    |true=>
     refine .inr ?_
     rw [Bool.not_true,aw]
     by_cases hlow:k<2^q
     ·have hown:(if 2^q≤k then b else a)=a:=if_neg om
      rw [hown,brn om]
      cases due with
      |none=>
       refine .inr ⟨rfl,(by rintro ⟨d,h,_⟩;cases h), ?_⟩
       rw [brn (by have:=hd.1 rfl;omega),hD,obs,hpair,obs,aa _ om om];rfl
      |some d=>
       rw [brd (by have:preR.length≠0:=fun e=>by cases hd.2 e
                   omega)]
       rw [show (xW (some d))=d.1 from rfl,Ec]
       by_cases e:a=d
       ·rw [if_pos e]
        refine .inr ⟨rfl,by rintro ⟨x,h,h'⟩;cases h;exact h' e, ?_⟩
        rw [hD,obs,hpair,obs,aa _ om om];rfl
       ·rw [if_neg e]
        exact .inl ⟨rfl,⟨d,rfl,e⟩,_,rfl⟩
     ·have hown:(if 2^q≤k then b else a)=b:=if_pos om
      rw [hown,brd om]
      cases due with
      |none=>
       refine .inr ⟨rfl,(by rintro ⟨d,h,_⟩;cases h), ?_⟩
       rw [brn (by have:=hd.1 rfl;omega),hD,obs,hpair,obs,aa _ om om];rfl
      |some d=>
       rw [brd (by have:preR.length≠0:=fun e=>by cases hd.2 e
                   omega)]
       rw [show (xW (some d))=d.1 from rfl,Ec]
       by_cases e:b=d
       ·rw [if_pos e]
        refine .inr ⟨rfl,by rintro ⟨x,h,h'⟩;cases h;exact h' e, ?_⟩
        rw [hD,obs,hpair,obs,aa _ om om];rfl
       ·rw [if_neg e]
        exact .inl ⟨rfl,⟨d,rfl,e⟩,_,rfl⟩
   rw [qcK,Nat.add_sub_cancel]
   rcases hstep with ⟨hc,e,he⟩|⟨hc,ho,e,he⟩|⟨hc,ho,he⟩
   ·rw [if_pos hc,bA he,obs,jX]
   ·rw [if_neg (by rw [hc];simp),if_pos ho,bA he,obs,mN,jX]
   ·rw [if_neg (by rw [hc];simp),if_neg ho,bn he];exact ih
end Go.AI.Fn
set_option linter.unusedVariables false
set_option linter.unusedSimpArgs false
namespace Go.AI.Fn
theorem Tr: ∀(A B preA preB:List K) (acc:K),A.length=B.length→preA.length=preB.length→preA.length+A.length≤100→
 Loop (i7 (kv (preA++A)) (kv (preB++B)) 0 0) ((preA.length:Int),acc.1.A,acc.1.B)=some (((preA++A).length:Int),false,(eaK A B acc).1.A,(eaK A B acc).1.B)
 |[],B,preA,preB,acc,h1,h2,h3=>by
  refine bA ?_
  simp only [i7,aP]
  rw [brn (by simp),decide_eq_false (by simp)];simp [eaK]
 |x::A,[],preA,preB,acc,h1,h2,h3=>by simp at h1
 |x::A,b::B,preA,preB,acc,h1,h2,h3=>by
  rw [List.length_cons,List.length_cons] at h1
  rw [List.length_cons] at h3
  have ih:=Tr A B (preA++[x]) (preB++[b]) (acc*(x*b+(1-x)*(1-b))) om (by rw [List.length_append,List.length_append,List.length_singleton,List.length_singleton];omega) (by rw [List.length_append,List.length_singleton];omega)
  rw [List.append_assoc,List.append_assoc,List.singleton_append,List.singleton_append,show (preA++[x]).length=preA.length+1 by simp] at ih
  have hx:atL (kv (preA++x::A)) (preA.length:Int)=some x.1:=by rw [xc];exact jP (by rw [aP])
  have hb:atL (kv (preB++b::B)) (preA.length:Int)=some b.1:=by rw [xc];exact jP (by rw [aP];omega)
  rw [bn (s':=(((preA.length+1:Nat):Int),(acc*(x*b+(1-x)*(1-b))).1.A,(acc*(x*b+(1-x)*(1-b))).1.B)) ?_]
  ·rw [ih];rfl
  ·simp only [i7,aP]
   rw [brd (by rw [List.length_append,List.length_cons];omega),hx,obs,hb,obs,dl x.2 b.2,obs,obs,E7 x.2,obs,obs,E7 b.2,obs,dl (um _ _) (um _ _),obs,iI (nC _ _) (nC _ _),obs,show Ext.mk acc.1.A acc.1.B=acc.1 from rfl,dl acc.2 (Ty _ _),obs,aa _ om om];rfl
theorem a46 {A B:List K} (h:A.length=B.length) (hl:A.length≤100):py (kv A) (kv B)=some (eaK A B 1).1:=by
 have:=Tr A B [] [] 1 h rfl (by rw [List.length_nil];omega)
 unfold py
 rw [Nb,obs]
 rw [List.nil_append,List.nil_append,List.length_nil] at this
 have key:Loop (i7 (kv A) (kv B) 0 0) (0,e1.A,e1.B)=_:=this
 rw [key];rfl
theorem Ti: ∀(A B preA preB:List K) (acc:K),A.length=B.length→preA.length=preB.length→preA.length+A.length≤100→
 Loop (nj (kv (preB++B)) (kv (preA++A)) ((preA++A).length:Int) 0 0) ((preA.length:Int),acc.1.A,acc.1.B)=some (((preA++A).length:Int),false,(eaK A B acc).1.A,(eaK A B acc).1.B)
 |[],B,preA,preB,acc,h1,h2,h3=>by
  refine bA ?_
  simp only [nj]
  rw [brn (by simp),decide_eq_false (by simp)];simp [eaK]
 |x::A,[],preA,preB,acc,h1,h2,h3=>by simp at h1
 |x::A,b::B,preA,preB,acc,h1,h2,h3=>by
  rw [List.length_cons,List.length_cons] at h1
  rw [List.length_cons] at h3
  have ih:=Ti A B (preA++[x]) (preB++[b]) (acc*(x*b+(1-x)*(1-b))) om (by rw [List.length_append,List.length_append,List.length_singleton,List.length_singleton];omega) (by rw [List.length_append,List.length_singleton];omega)
  rw [List.append_assoc,List.append_assoc,List.singleton_append,List.singleton_append,show (preA++[x]).length=preA.length+1 by simp] at ih
  have hx:atL (kv (preA++x::A)) (preA.length:Int)=some x.1:=by rw [xc];exact jP (by rw [aP])
  have hb:atL (kv (preB++b::B)) (preA.length:Int)=some b.1:=by rw [xc];exact jP (by rw [aP];omega)
  rw [bn (s':=(((preA.length+1:Nat):Int),(acc*(x*b+(1-x)*(1-b))).1.A,(acc*(x*b+(1-x)*(1-b))).1.B)) ?_]
  ·rw [ih];rfl
  ·simp only [nj]
   rw [brd (by rw [List.length_append,List.length_cons];omega),hx,obs,hb,obs,dw x.2 b.2,obs,Jj,obs,nk a09 x.2,obs,obs,obs,nk a09 b.2,obs,dw (um _ _) (um _ _),obs,j7 (nC _ _) (nC _ _),obs,show Ext.mk acc.1.A acc.1.B=acc.1 from rfl,dw acc.2 (Ty _ _),obs,aa _ om om];rfl
theorem a3e {A B:List K} (h:A.length=B.length) (hl:A.length≤100):GW (kv A) (kv B)=some (eaK A B 1).1:=by
 have:=Ti A B [] [] 1 h rfl (by rw [List.length_nil];omega)
 unfold GW
 rw [Jj,obs,aP]
 rw [List.nil_append,List.nil_append,List.length_nil] at this
 have key:Loop (nj (kv B) (kv A) (A.length:Int) 0 0) (0,e1.A,e1.B)=_:=this
 rw [key];rfl
theorem b6I {L:List Ext} (h:cE L):kv (L.map toK)=L:=by
 rw [kv,List.map_map]
 refine (List.map_congr_left fun x hx=> ?_).trans (List.map_id _)
 exact jo (h x hx)
theorem a9C: ∀(n m:Nat) (rts:List (List UInt8)) (prs:List K) (pths:List (List (List UInt8))) (D:List K),n≤m→rts.length=n→prs.length=2*n→pths.length=n→D.length=n→(∀j,j<n→(pths.getD j []).length=m-1-j∧ ∀x∈pths.getD j [],x.length=32)→QSh m rts prs pths D
 |0,m,[],[],[],[],_,_,_,_,_,_=>trivial
 |0,m,_::_,_,_,_,_,h,_,_,_,_=>by simp at h
 |0,m,_,_::_,_,_,_,_,h,_,_,_=>by simp at h
 |0,m,_,_,_::_,_,_,_,_,h,_,_=>by simp at h
 |0,m,_,_,_,_::_,_,_,_,_,h,_=>by simp at h
 |n+1,m,rts,prs,pths,D,hm,h1,h2,h3,h4,h5=>by
  match rts,prs,pths,D,h1,h2,h3,h4 with
  |rt::rts,a::b::prs,p::pths,r::D,h1,h2,h3,h4=>
   simp only [List.length_cons] at h1 h2 h3 h4
   have h0:=h5 0 om
   exact ⟨by omega,by have:=h0.1;simpa using this,fun x hx=>h0.2 x hx,a9C n (m-1) rts prs pths D om om om om om fun j hj=>by
    have:=h5 (j+1) om
    exact ⟨this.1.trans om,this.2⟩⟩
  |[],_,_,_,h1,_,_,_=>simp at h1
  |_::_,[],_,_,_,h2,_,_=>simp at h2
  |_::_,[_],_,_,_,h2,_,_=>simp at h2;omega
  |_::_,_::_::_,[],_,_,_,h3,_=>simp at h3
  |_::_,_::_::_,_::_,[],_,_,_,h4=>simp at h4
variable {o:au} {v ρ:Nat} {t:Setting} {root:List UInt8} {D:List K} {q:aj}
theorem b5j (h:OkO o v t) (e1:t.Rate=(ρ:Int)) (hD:D.length=v) (hq:q∈o.Queries):QSh (v+ρ) (root::o.Roots) (q.Pairs.map toK) q.Paths D:=by
 obtain ⟨h1,h2,h3,h4⟩:=xV (h.qq q hq)
 have hv:=h.v1
 have hs:=hG h.st
 have hr:=h.ro
 exact a9C v (v+ρ) _ _ _ _ om (by rw [List.length_cons];omega) (by rw [List.length_map,h1]) h3 hD fun j hj=>by
  have:=h4 j hj
  exact ⟨by omega,this.2⟩
theorem a2V (h:OkO o v t) (e1:t.Rate=(ρ:Int)) (hD:D.length=v) (hq:q∈o.Queries) {p:Int} (h0:0≤p) (hp:p<512):
 yR (root::o.Roots) (v:Int) ((2^(v+ρ):Nat):Int) p (kv D) o q=some (qcK (toK o.Last) (v+ρ) (root::o.Roots) (q.Pairs.map toK) q.Paths D p.toNat none):=by
 have hs:=hG h.st
 have hv:=h.v1
 have hr:=h.ro
 have key:=TC (l:=toK o.Last) (V:=(v:Int)) (c:=o.Rounds) (c2:=o.Roots) (c3:=o.Last.A) (c4:=o.Last.B) (c5:=o.Nonce) (c6:=o.Queries) (root::o.Roots) (q.Pairs.map toK) q.Paths D (v+ρ) [] [] [] [] p.toNat none (b5j h e1 hD hq) om rfl rfl rfl (by rw [List.length_nil,List.length_cons];omega) (by rw [List.length_nil,List.length_cons];omega) om (by simp) (by simp)
 simp only [List.nil_append,List.length_nil,b6I (xV (h.qq q hq)).2.1,Int.toNat_of_nonneg h0,jo h.la] at key
 exact key
theorem a1Z (h:OkO o v t) (e1:t.Rate=(ρ:Int)) (hD:D.length=v) (hq:q∈o.Queries) {p:Int} (h0:0≤p) (hp:p<512):
 tp (root::o.Roots) (kv D) ((2^(v+ρ):Nat):Int) p o q=some (qcK (toK o.Last) (v+ρ) (root::o.Roots) (q.Pairs.map toK) q.Paths D p.toNat none):=by
 have hs:=hG h.st
 have hv:=h.v1
 have hr:=h.ro
 have key:=T7 (l:=toK o.Last) (M:=v+ρ) (V:=(((root::o.Roots).length:Nat):Int)) (c:=o.Rounds) (c2:=o.Roots) (c3:=o.Last.A) (c4:=o.Last.B) (c5:=o.Nonce) (c6:=o.Queries) (root::o.Roots) (q.Pairs.map toK) q.Paths D (v+ρ) [] [] [] [] p.toNat none (b5j h e1 hD hq) om rfl rfl rfl rfl (by rw [List.length_nil];omega) (by rw [List.length_nil,List.length_cons];omega) om (by simp) (by simp)
 simp only [List.nil_append,List.length_nil,b6I (xV (h.qq q hq)).2.1,Int.toNat_of_nonneg h0,jo h.la] at key
 exact key
end Go.AI.Fn
set_option linter.unusedVariables false
set_option linter.unusedSimpArgs false
namespace Go.AI.Fn
theorem Nf {v:Nat} {V:Int} {rts l:List (List UInt8)} {t2:List Ext} {c c2 c3 c4 c5 c8 c9 c10 c16 c18:Int} {c11:List aj} {c17:List UInt8} (hV:V=(v:Int)) (hrl:rts.length+1=v) (hrh: ∀x∈rts,x.length=32): ∀(R pre:List (List K)) (cl:K) (s:Source) (k:Int) (P:List Ext),(∀g∈R,g.length=3)→Few s k→k+3*R.length≤999890→P.length+R.length≤1000→pre.length+R.length=v→v≤100→
 ((vfM 1 (bvO v rts) R pre.length cl s).1=0→Loop (cO l V t2 c c2 c3 c4 c5 (kvv (pre++R)) rts c8 c9 c10 c11 c16 c17 c18) (P,(pre.length:Int),s.Script,s.At,s.State,s.Count,cl.1.A,cl.1.B)=
   some (.inr (P++kv (vfM 1 (bvO v rts) R pre.length cl s).2.1,V,false,(vfM 1 (bvO v rts) R pre.length cl s).2.2.2.Script,(vfM 1 (bvO v rts) R pre.length cl s).2.2.2.At,(vfM 1 (bvO v rts) R pre.length cl s).2.2.2.State,(vfM 1 (bvO v rts) R pre.length cl s).2.2.2.Count,
    (vfM 1 (bvO v rts) R pre.length cl s).2.2.1.1.A,(vfM 1 (bvO v rts) R pre.length cl s).2.2.1.1.B)))∧
 ((vfM 1 (bvO v rts) R pre.length cl s).1≠0→(vfM 1 (bvO v rts) R pre.length cl s).1=10∧ ∃e,Loop (cO l V t2 c c2 c3 c4 c5 (kvv (pre++R)) rts c8 c9 c10 c11 c16 c17 c18) (P,(pre.length:Int),s.Script,s.At,s.State,s.Count,cl.1.A,cl.1.B)=some (.inl e))
 |[],pre,cl,s,k,P,hg,hf,hk,hP,hp,hv=>by
  rw [List.length_nil] at hp
  refine ⟨fun _=>bA ?_,fun h=>absurd rfl h⟩
  simp only [cO,List.append_nil]
  rw [brn om,decide_eq_false om]
  simp [vfM,kv];omega
 |g::R,pre,cl,s,k,P,hg,hf,hk,hP,hp,hv=>by
  rw [List.length_cons] at hk hP hp
  have hgl:=hg g (by simp)
  have hat:atL (kvv (pre++g::R)) (pre.length:Int)=some (kv g):=by rw [UV (by simp)];simp
  have hk0:0≤k:=by have:=hf.2;have:=hf.1.4;omega
  rw [vfM,if_pos (show g.length=1+2 from hgl)]
  by_cases h2:g.getD 0 0+g.getD 1 0=cl
  ·rw [if_pos h2]
   have hfb:Few (bvO v rts pre.length (nsM s g)) (k+2+1):=Uj v rts _ _ _ (H0 hf om g) om
   have ih:=Nf (l:=l) (t2:=t2) (c:=c) (c2:=c2) (c3:=c3) (c4:=c4) (c5:=c5) (c8:=c8) (c9:=c9) (c10:=c10) (c11:=c11) (c16:=c16) (c17:=c17) (c18:=c18) hV hrl hrh R (pre++[g]) (lnK g (rdM s g)) (bvO v rts pre.length (nsM s g)) (k+2+1) (P++[(rdM s g).1]) (fun x hx=>hg x (by simp [hx])) hfb om (by rw [List.length_append,List.length_singleton];omega) (by rw [List.length_append,List.length_singleton];omega) hv
   rw [List.append_assoc,List.singleton_append,List.length_append,List.length_singleton] at ih
   have step:cO l V t2 c c2 c3 c4 c5 (kvv (pre++g::R)) rts c8 c9 c10 c11 c16 c17 c18 (P,(pre.length:Int),s.Script,s.At,s.State,s.Count,cl.1.A,cl.1.B)=
    some (.inl (P++[(rdM s g).1],((pre.length+1:Nat):Int),(bvO v rts pre.length (nsM s g)).Script,(bvO v rts pre.length (nsM s g)).At,(bvO v rts pre.length (nsM s g)).State,(bvO v rts pre.length (nsM s g)).Count,(lnK g (rdM s g)).1.A,(lnK g (rdM s g)).1.B)):=by
    simp only [cO]
    rw [brd om,hat,obs,atK (i:=0) (j:=0) rfl om,obs,atK (i:=1) (j:=1) rfl om,obs,iI (Subtype.property _) (Subtype.property _),obs]
    rw [show eA (g.getD 0 0).1 (g.getD 1 0).1=cl.1 from congrArg Subtype.val h2,bre rfl,bre rfl,show Source.mk s.Script s.At s.State s.Count=s from rfl,Pg hf.1 om,obs,b5x hf,obs]
    dsimp only
    rw [Tw _ om,obs,aC (by rw [List.length_append,List.length_singleton];omega),aa _ om om]
    by_cases hb:pre.length+1<v
    ·have hx:rts.getD pre.length []∈rts:=by simp [show pre.length<rts.length by omega]
     rw [brd om,mV (d:=[]) om,obs,rb (H0 hf om g).1.3 (by rw [hrh _ hx];omega),obs,bvO,if_pos hb];rfl
    ·rw [brn om,bvO,if_neg hb];rfl
   refine ⟨fun h=> ?_,fun h=> ?_⟩
   ·rw [bn step,ih.1 h]
    simp [kv]
   ·obtain ⟨h10,e,he⟩:=ih.2 h
    exact ⟨h10,e,by rw [bn step,he]⟩
  ·rw [if_neg h2]
   refine ⟨fun h=>absurd (show (10:Int)=0 from h) (by decide),fun _=>⟨rfl,(P,s.Script,s.At,s.State,s.Count,s.Script,s.At,s.State,s.Count,cl.1.A,cl.1.B),bA ?_⟩⟩
   simp only [cO]
   rw [brd om,hat,obs,atK (i:=0) (j:=0) rfl om,obs,atK (i:=1) (j:=1) rfl om,obs,iI (Subtype.property _) (Subtype.property _),obs]
   rw [show eA (g.getD 0 0).1 (g.getD 1 0).1=(g.getD 0 0+g.getD 1 0).1 from rfl,Ec,if_neg h2]
theorem NT {v:Nat} {V:Int} {rts:List (List UInt8)} {c6:List (List Ext)} {c8 c9 c10 c14 c15:Int} {c11:List aj} (hV:V=(v:Int)) (hrl:rts.length+1=v) (hrh: ∀x∈rts,x.length=32): ∀(R pre:List (List K)) (cl:K) (s:Source) (k:Int) (P:List Ext),(∀g∈R,g.length=3)→Few s k→k+3*R.length≤999890→P.length+R.length≤1000→pre.length+R.length=v→v≤100→
 ((vfM 1 (bvO v rts) R pre.length cl s).1=0→Loop (an 1 (kvv (pre++R)) V c14 c15) (P,(pre.length:Int),s.Script,s.At,s.State,s.Count,V,c6,rts,c8,c9,c10,c11,cl.1.A,cl.1.B)=
   some (.inr (P++kv (vfM 1 (bvO v rts) R pre.length cl s).2.1,V,false,(vfM 1 (bvO v rts) R pre.length cl s).2.2.2.Script,(vfM 1 (bvO v rts) R pre.length cl s).2.2.2.At,(vfM 1 (bvO v rts) R pre.length cl s).2.2.2.State,(vfM 1 (bvO v rts) R pre.length cl s).2.2.2.Count,V,c6,rts,c8,c9,c10,c11,
    (vfM 1 (bvO v rts) R pre.length cl s).2.2.1.1.A,(vfM 1 (bvO v rts) R pre.length cl s).2.2.1.1.B)))∧
 ((vfM 1 (bvO v rts) R pre.length cl s).1≠0→(vfM 1 (bvO v rts) R pre.length cl s).1=10∧ ∃e:List Ext×Int×List Ext×Int×List UInt8×Int×Int×List (List Ext)×List (List UInt8)×Int×Int×Int×List aj×Int×Int,e.2.1=10∧Loop (an 1 (kvv (pre++R)) V c14 c15) (P,(pre.length:Int),s.Script,s.At,s.State,s.Count,V,c6,rts,c8,c9,c10,c11,cl.1.A,cl.1.B)=some (.inl e))
 |[],pre,cl,s,k,P,hg,hf,hk,hP,hp,hv=>by
  rw [List.length_nil] at hp
  refine ⟨fun _=>bA ?_,fun h=>absurd rfl h⟩
  simp only [an,List.append_nil]
  rw [brn om,decide_eq_false om]
  simp [vfM,kv];omega
 |g::R,pre,cl,s,k,P,hg,hf,hk,hP,hp,hv=>by
  rw [List.length_cons] at hk hP hp
  have hgl:=hg g (by simp)
  have hdg:nl 1=some ((2:Nat):Int):=vg (kind:=1) (.inl rfl)
  have hat:atL (kvv (pre++g::R)) (pre.length:Int)=some (kv g):=by rw [UV (by simp)];simp
  have hk0:0≤k:=by have:=hf.2;have:=hf.1.4;omega
  rw [vfM,if_pos (show g.length=1+2 from hgl)]
  by_cases h2:g.getD 0 0+g.getD 1 0=cl
  ·rw [if_pos h2]
   have hfb:Few (bvO v rts pre.length (nsM s g)) (k+2+1):=Uj v rts _ _ _ (H0 hf om g) om
   have ih:=NT (c6:=c6) (c8:=c8) (c9:=c9) (c10:=c10) (c11:=c11) (c14:=c14) (c15:=c15) hV hrl hrh R (pre++[g]) (lnK g (rdM s g)) (bvO v rts pre.length (nsM s g)) (k+2+1) (P++[(rdM s g).1]) (fun x hx=>hg x (by simp [hx])) hfb om (by rw [List.length_append,List.length_singleton];omega) (by rw [List.length_append,List.length_singleton];omega) hv
   rw [List.append_assoc,List.singleton_append,List.length_append,List.length_singleton] at ih
   have step:an 1 (kvv (pre++g::R)) V c14 c15 (P,(pre.length:Int),s.Script,s.At,s.State,s.Count,V,c6,rts,c8,c9,c10,c11,cl.1.A,cl.1.B)=
    some (.inl (P++[(rdM s g).1],((pre.length+1:Nat):Int),(bvO v rts pre.length (nsM s g)).Script,(bvO v rts pre.length (nsM s g)).At,(bvO v rts pre.length (nsM s g)).State,(bvO v rts pre.length (nsM s g)).Count,V,c6,rts,c8,c9,c10,c11,(lnK g (rdM s g)).1.A,(lnK g (rdM s g)).1.B)):=by
    simp only [an,j1]
    rw [brd om,hat,obs,hdg,obs,aa _ om om,cZ (by rw [aP];omega),atK (i:=0) (j:=0) rfl om,obs,atK (i:=1) (j:=1) rfl om,obs,j7 (Subtype.property _) (Subtype.property _),obs]
    rw [show eA (g.getD 0 0).1 (g.getD 1 0).1=cl.1 from congrArg Subtype.val h2,bre rfl,bre rfl,show Source.mk s.Script s.At s.State s.Count=s from rfl,Po hf.1 om,obs,b5n hf,obs]
    dsimp only
    rw [L7 _ om,obs,aC (by rw [List.length_append,List.length_singleton];omega),aa (V-1) om om,aa ((pre.length:Int)+1) om om]
    by_cases hb:pre.length+1<v
    ·have hx:rts.getD pre.length []∈rts:=by simp [show pre.length<rts.length by omega]
     rw [brd om,mV (d:=[]) om,obs,aC (by rw [hrh _ hx];omega),rd (H0 hf om g).1.3 (by rw [hrh _ hx];omega),obs,obs,bvO,if_pos hb];rfl
    ·rw [brn om,obs,bvO,if_neg hb];rfl
   refine ⟨fun h=> ?_,fun h=> ?_⟩
   ·rw [bn step,ih.1 h]
    simp [kv]
   ·obtain ⟨h10,e,h1,he⟩:=ih.2 h
    exact ⟨h10,e,h1,by rw [bn step,he]⟩
  ·rw [if_neg h2]
   refine ⟨fun h=>absurd (show (10:Int)=0 from h) (by decide),fun _=>⟨rfl,(P,10,s.Script,s.At,s.State,s.Count,V,c6,rts,c8,c9,c10,c11,cl.1.A,cl.1.B),rfl,bA ?_⟩⟩
   simp only [an,j1]
   rw [brd om,hat,obs,hdg,obs,aa _ om om,cZ (by rw [aP];omega),atK (i:=0) (j:=0) rfl om,obs,atK (i:=1) (j:=1) rfl om,obs,j7 (Subtype.property _) (Subtype.property _),obs]
   rw [show eA (g.getD 0 0).1 (g.getD 1 0).1=(g.getD 0 0+g.getD 1 0).1 from rfl,Ec,if_neg h2]
end Go.AI.Fn
