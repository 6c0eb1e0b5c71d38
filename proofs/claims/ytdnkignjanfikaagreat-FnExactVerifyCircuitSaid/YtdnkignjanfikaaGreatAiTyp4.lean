/- Part. -/
import Derived.Test.YtdnkignjanfikaaGreatAiTyp3
set_option linter.unusedVariables false
set_option linter.unusedSimpArgs false
namespace Go.AI
def ar (k:IntKind) (l:List Int):List V:=l.map fun n=> .lit (.int k n)
def nZ (n:Nat):List Int:=List.replicate n 0
def zar (k:IntKind) (n:Nat):List Value:=List.replicate n (.int k 0)
def Yc (k:IntKind):Nat->List Int->List (Nat×Nat×Opd)
 |_,[]=>[]
 |i,c::r=>(i,1,.c (.int k c))::Yc k (i+1) r
theorem nP (x:Int):UInt8.ofInt (IntKind.u8.wrap x)=UInt8.ofInt x:=by
 have h:=ua (IntKind.u8.wrap x)
 have b:=ua x
 have a:IntKind.u8.wrap (IntKind.u8.wrap x)=IntKind.u8.wrap x:=by
  simp [IntKind.wrap,IntKind.bits,IntKind.signed]
 apply UInt8.toNat.inj
 rw [a] at h
 omega
theorem a9G (l:List UInt8) (i:Nat) (a b:Int):i4 (rws eU8 l) i [.lit (.int .u8 (xz .u8 a b))]=rws eU8 (l.set i (UInt8.ofInt (xz .u8 a b))):=by
 unfold xz;rw [QQ,nP]
theorem a69 (l:List UInt8) (a b:Int):dj [.lit (.int .u8 (xz .u8 a b))] (rws eU8 l)=rws eU8 (UInt8.ofInt (xz .u8 a b)::l):=by
 unfold xz;rw [L9,nP]
theorem a5N (l:List UInt8) (i:Nat) (a b:Int):i4 (rws eU8 l) i [.lit (.int .u8 (cM .u8 a b))]=rws eU8 (l.set i (UInt8.ofInt (cM .u8 a b))):=by
 unfold cM;rw [QQ,nP]
theorem a2g (l:List UInt8) (a b:Int):dj [.lit (.int .u8 (cM .u8 a b))] (rws eU8 l)=rws eU8 (UInt8.ofInt (cM .u8 a b)::l):=by
 unfold cM;rw [L9,nP]
theorem a6r (l:List UInt8) (i:Nat) (a b:Int):i4 (rws eU8 l) i [.lit (.int .u8 (nk .u8 a b))]=rws eU8 (l.set i (UInt8.ofInt (nk .u8 a b))):=by
 unfold nk;rw [QQ,nP]
theorem a3u (l:List UInt8) (a b:Int):dj [.lit (.int .u8 (nk .u8 a b))] (rws eU8 l)=rws eU8 (UInt8.ofInt (nk .u8 a b)::l):=by
 unfold nk;rw [L9,nP]
theorem a4p (l:List UInt8) (i:Nat) (a b:Int):i4 (rws eU8 l) i [.lit (.int .u8 (bC .u8 a b))]=rws eU8 (l.set i (UInt8.ofInt (bC .u8 a b))):=by
 unfold bC;rw [QQ,nP]
theorem a3J (l:List UInt8) (a b:Int):dj [.lit (.int .u8 (bC .u8 a b))] (rws eU8 l)=rws eU8 (UInt8.ofInt (bC .u8 a b)::l):=by
 unfold bC;rw [L9,nP]
theorem b5e {h:b8} {bs:List Nat}:fzK h bs mO=mO:=rfl
theorem b0h {α:Type} {l r:List α} {s q:Nat} (a:l.length=q):(BL l s (min r.length (q-s)) r).length=q:=by
 subst a
 simp only [BL,ab,bc,dR]
 omega
theorem a4R {α:Type} {l r:List α} {q:Nat} (a:l.length=q):(BL l 0 (min r.length q) r).length=q:=by
 subst a
 simp only [BL,ab,bc,dR]
 omega
section
variable {C:ce} {ow:ec} {ev:Opd->V} {h:b8} {n:Nat} {k:IntKind} {l l2:List Int}
theorem Jv:(ar k l).length=l.length:=by simp [ar]
theorem s7 (a:Int):ar k (a::l)= .lit (.int k a)::ar k l:=rfl
theorem c7Y:(ar k l).map V.cz=ar k l:=by
 induction l with
 |nil=>rfl
 |cons a l ih=>rw [s7,aP,ih];rfl
theorem c2Q (ids:List Nat):(ar k l).map (unV ids)=ar k l:=by
 induction l with
 |nil=>rfl
 |cons a l ih=>rw [s7,aP,ih];rfl
theorem b6B (ids:List Nat):(ar k l).map (mG ids)=ar k l:=by
 induction l with
 |nil=>rfl
 |cons a l ih=>rw [s7,aP,ih];rfl
theorem c4K (bs:List Nat):(ar k l).map (fzC h bs)=ar k l:=by
 induction l with
 |nil=>rfl
 |cons a l ih=>rw [s7,aP,ih];rfl
theorem a7p:(ar k l).all V.cell=true:=by
 induction l with
 |nil=>rfl
 |cons a l ih=>rw [s7,cj,ih];rfl
theorem b3v:(ar k l).all pC=true:=by
 induction l with
 |nil=>rfl
 |cons a l ih=>rw [s7,cj,ih];rfl
theorem c1h:(ar k l).flatMap rF=[]:=by
 induction l with
 |nil=>rfl
 |cons a l ih=>rw [s7,cm,ih];rfl
theorem b3O (m:Nat) (kp:List Nat):wF h m kp (ar k l)=some (ar k l):=by
 induction l with
 |nil=>rfl
 |cons a l ih=>rw [s7,QM,ih];rfl
theorem b27 (m:Nat) (kp:List Nat):zl h m kp (ar k l)=some (ar k l):=by
 induction l with
 |nil=>rfl
 |cons a l ih=>rw [s7,yf,ih];rfl
theorem b96 (ids:List Nat):rj h ids (ar k l)=some (ar k l,ids):=by
 induction l with
 |nil=>rfl
 |cons a l ih=>rw [s7,yd,R5,Fh,ih];rfl
theorem c5r (own:Bool) (ids:List Nat):eQ h own ids (ar k l)=some (ar k l,ids,[]):=by
 induction l with
 |nil=>rfl
 |cons a l ih=>rw [s7,HX,b4g,VI,ih];rfl
theorem a9e:(V.agg (ar k l)).cells=ar k l:=rfl
theorem b8r (i:Nat):part none (ar k l) i=(l[i]?).bind fun x=>some (.lit (.int k x)):=by
 simp only [part,ar,aW]
 cases l[i]? <;>rfl
def c6P (m:Nat) (k:IntKind) (l:List Int):Option V:=part (some m) (ar k l) 0
theorem b4E (m:Nat):part (some m) (ar k l) 0=br (Nat.beq l.length m) (some (.agg (ar k l))) (c6P m k l):=by
 rw [LD]
 by_cases a:l.length=m
 ·subst a
  simp only [part,Jv,decide_true,cK]
  rw [ae (by omega),fP,ca (by rw [Jv];omega)]
 ·rw [ag a,ba];rfl
theorem c3b (c:Bool) (x y:Option V):ldS (br c x y)=br c (ldS x) (ldS y):=by cases c<;>rfl
theorem b57 (k:IntKind) (m q:Nat):aM C ow (.alloc (zar k m)) ev h q=frO (h q) q ⟨m,true,[ar k (nZ m)]⟩ (.ptr q 0 0 1):=by
 rw [a6P]
 have a:(zar k m).all ci=true:=by simp [zar,ci]
 have b:(zar k m).map V.lit=ar k (nZ m):=by simp [zar,ar,nZ]
 rw [a,cK,b]
 simp [zar]
theorem b0I (k:IntKind) (m q:Nat):aM C ow (.build (zar k m) []) ev h q=some (.agg (ar k (nZ m)),[]):=by
 rw [WP]
 have a:(zar k m).all ci=true:=by simp [zar,ci]
 have b:(zar k m).map V.lit=ar k (nZ m):=by simp [zar,ar,nZ]
 rw [a,cK,b];rfl
theorem Lk (f:Nat->V): ∀(cs:List Int) (i:Nat),iJ (Opd.ev f) (Yc k i cs)=(cs.zipIdx i).map fun p=>(p.2,1,.lit (.int k p.1))
 |[],i=>rfl
 |c::cs,i=>by
  show (i,1,_)::iJ _ (Yc k (i+1) cs)=_
  rw [Lk f cs (i+1)];rfl
theorem W6: ∀(cs:List Int) (pre:List Int),J5 (ar k (pre++List.replicate cs.length 0)) ((cs.zipIdx pre.length).map fun p=>(p.2,1,.lit (.int k p.1)))=some (ar k (pre++cs))
 |[],pre=>by simp [J5]
 |c::cs,pre=>by
  have ih:=W6 cs (pre++[c])
  simp only [List.zipIdx_cons,aP,J5]
  rw [ae ⟨rfl,by rw [Jv,ab,aS,ah];omega,rfl⟩]
  have e1:(ar k (pre++List.replicate (c::cs).length 0)).take pre.length=ar k pre:=by simp [ar]
  have e2:(ar k (pre++List.replicate (c::cs).length 0)).drop (pre.length+1)=ar k (List.replicate cs.length 0):=by
   simp [ar,List.drop_append]
  rw [e1,e2]
  have a:ar k pre++((V.lit (.int k c)).cells++ar k (List.replicate cs.length 0))=ar k ((pre++[c])++List.replicate cs.length 0):=by simp [ar,V.cells]
  have b:pre++c::cs=(pre++[c])++cs:=by simp
  rw [a,b, <-ih]
  simp
theorem b4N (st:St) (k:IntKind) (m q:Nat) (cs:List Int) (a:Nat.beq cs.length m=true):aM C ow (.build (zar k m) (Yc k 0 cs)) st.ev h q=some (.agg (ar k cs),[]):=by
 show aM C ow (.build (zar k m) (Yc k 0 cs)) (Opd.ev st.get) h q=some (.agg (ar k cs),[])
 have a:=hO a
 subst a
 have b:(zar k cs.length).all ci=true:=by simp [zar,ci]
 have c:(zar k cs.length).map V.lit=ar k (List.replicate cs.length 0):=by simp [zar,ar]
 rw [WP,b,cK,c,Lk, <-Ra]
 have:=W6 (k:=k) cs []
 simp only [bg,ai] at this
 rw [this];rfl
theorem c2p (m b o:Nat) (x:Int):stO (some ⟨m,true,[ar k l]⟩) b 1 0 o 1 (.lit (.int k x)) h=br (decide (o<l.length)) (some (.undef,[(b,⟨m,true,[ar k (l.set o x)]⟩)])) none:=by
 rw [a4d]
 simp only [Wd,ah,ai,Jv,cj,a0l,oC,fx]
 have e0:Nat.beq (0+1) 1=true:=rfl
 rw [e0,aN,KD]
 by_cases a:o<l.length
 ·rw [al (show o+1<=l.length by omega),al a,cK,cK]
  have:(ar k l).take o++([V.lit (.int k x)]++(ar k l).drop (o+1))=ar k (l.set o x):=by
   rw [List.set_eq_take_append_cons_drop,ae a];simp [ar]
  rw [this]
 ·rw [ag (show ¬o+1<=l.length by omega),ag a,ba,ba]
def c8t (m b q:Nat) (x:V) (row:List V) (h:b8):Option (V×Upd):=stO (some ⟨m,true,[row]⟩) b q 0 0 1 x h
theorem c0Q (m b q:Nat):stO (some ⟨m,true,[ar k l]⟩) b q 0 0 1 (.agg (ar k l2)) h=br (Nat.beq l2.length q&&Nat.beq l.length q) (some (.undef,[(b,⟨m,true,[ar k l2]⟩)])) (c8t m b q (.agg (ar k l2)) (ar k l) h):=by
 rw [LD,LD]
 by_cases a:l2.length=q
 ·by_cases c:l.length=q
  ·rw [al a,al c,fx,cK,a4d]
   simp only [a9e,Jv,a7p,fx]
   rw [a,c,LD,KD,al rfl,al (show 0+q<=q by omega),fx,cK]
   rw [List.take_zero,bg,gy (by rw [Jv];omega),bU]
  ·rw [ag c,Bool.and_false,ba];rfl
 ·rw [ag a,jJ,ba];rfl
theorem c3G (c:Bool) (x y:Option V) (z:Option (List V)):rs1 (br c x y) z=br c (rs1 x z) (rs1 y z):=by cases c<;>rfl
theorem c0L (c:Bool) (v:V) (x y:Option (List V)):rs1 (some v) (br c x y)=br c (rs1 (some v) x) (rs1 (some v) y):=by cases c<;>rfl
theorem c1i (keep raw:Bool) (m:Nat) (c:Bool) (x y:Option (List V)):a2s keep raw m h (br c x y)=br c (a2s keep raw m h x) (a2s keep raw m h y):=by cases c<;>rfl
end
end Go.AI
