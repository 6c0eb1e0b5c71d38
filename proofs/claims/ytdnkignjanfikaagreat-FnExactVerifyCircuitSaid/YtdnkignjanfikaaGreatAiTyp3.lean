/- The machine's operations on values of Lean's own types: what writes, what makes, what calls; a function's end. -/
import Derived.Test.YtdnkignjanfikaaGreatAiTyp2
set_option linter.unusedVariables false
set_option linter.unusedSimpArgs false
namespace Go.AI
section
variable {C:cg} {ow:FuncId->List Nat} {ev:Opd->V} {h:aZ} {n:Nat} {α:Type} {e:En α} {l l2:List α}
def snO (k:Option Blk) (b s q:Nat):Option (V×List Nat):=match k with
 |some k=>if k.op=false/\0<k.esz/\s+q=k.rows.length then some (.imm k.esz (k.rows.drop s),[b]) else none
 |none=>none
theorem b53 (b s q:Nat):rZ h (.sl b s q)=snO (h b) b s q:=rfl
theorem c0H (m b q:Nat) (h0:Nat.blt 0 m=true) (hq:l.length=q):snO (some ⟨m,false,rws e l⟩) b 0 q=some (.imm m (rws e l),[b]):=by
 rw [MZ,aG] at h0
 simp [snO,rws,hq,h0]
theorem b2V (k:IntKind) (a:Int):rZ h (.lit (.int k a))=some (.lit (.int k a),[]):=rfl
theorem b5w (a:List UInt8):rZ h (S a)=some (S a,[]):=rfl
def snC:Option (V×List Nat)->Option (List V×List Nat)->Option (List V×List Nat)
 |some (a,bs),some (r,bs')=>some (a.cz::r,bs++bs')
 |_,_=>none
theorem b0D:nJ h []=some ([],[]):=rfl
theorem a6h (v:V) (r:List V):nJ h (v::r)=snC (rZ h v) (nJ h r):=by
 simp only [nJ,snC]
 cases rZ h v<;>cases nJ h r<;>rfl
theorem b5I (a:V) (bs:List Nat) (r:List V) (bs':List Nat):snC (some (a,bs)) (some (r,bs'))=some (a.cz::r,bs++bs'):=rfl
theorem c1x (k:IntKind) (a:Int):(V.lit (.int k a)).cz= .lit (.int k a):=rfl
theorem b7d (a:Bool):(V.lit (.bool a)).cz= .lit (.bool a):=rfl
theorem c1F (a:List UInt8):(S a).cz=S a:=rfl
theorem c3I:(V.lit (.slice none 0 0)).cz= .imm 1 []:=rfl
theorem c1i (b i o m:Nat):(V.ptr b i o m).cz= .ptr b i o m:=rfl
theorem c2o (b s q:Nat):(V.sl b s q).cz= .sl b s q:=rfl
theorem c4H (f:FuncId) (cs:List V):(V.fn f cs).cz= .fn f cs:=rfl
theorem b7b (cs:List V):(V.agg cs).czA= .agg (cs.map V.cz):=rfl
theorem b8T (k:IntKind) (a:Int):(V.lit (.int k a)).czA= .lit (.int k a):=rfl
theorem b4c (a:Bool):(V.lit (.bool a)).czA= .lit (.bool a):=rfl
theorem b7G (a:List UInt8):(S a).czA=S a:=rfl
theorem b8D:(V.lit (.slice none 0 0)).czA= .imm 1 []:=rfl
theorem b9o (m:Nat) (r:List (List V)):(V.imm m r).czA=(V.imm m r).cz:=rfl
theorem b7v (b i o m:Nat):(V.ptr b i o m).czA= .ptr b i o m:=rfl
theorem b8w (b s q:Nat):(V.sl b s q).czA= .sl b s q:=rfl
theorem c1y (f:FuncId) (cs:List V):(V.fn f cs).czA= .fn f cs:=rfl
theorem b9N (cs:List V):(V.tup cs).czR= .tup (cs.map V.czA):=rfl
theorem b8W (cs:List V):(V.agg cs).czR= .agg (cs.map V.cz):=rfl
theorem b7k (k:IntKind) (a:Int):(V.lit (.int k a)).czR= .lit (.int k a):=rfl
theorem b6C (a:Bool):(V.lit (.bool a)).czR= .lit (.bool a):=rfl
theorem b8s (a:List UInt8):(S a).czR=S a:=rfl
theorem b8d (m:Nat) (r:List (List V)):(V.imm m r).czR=(V.imm m r).cz:=rfl
theorem b8z (b i o m:Nat):(V.ptr b i o m).czR= .ptr b i o m:=rfl
theorem b9r (b s q:Nat):(V.sl b s q).czR= .sl b s q:=rfl
theorem b3b (m:Nat) (row:List V):Blk.cz ⟨m,true,[row]⟩=⟨m,true,[row.map V.cz]⟩:=rfl
theorem b2A (m:Nat) (r:List (List V)):Blk.cz ⟨m,false,r⟩=⟨m,false,r⟩:=rfl
theorem c0V (k:IntKind) (a:Int):zc (.int k a)= .lit (.int k a):=rfl
theorem c2M (a:List UInt8):zc (.string ⟨⟨a⟩⟩)=S a:=rfl
theorem c3d:zc (.slice none 0 0)= .imm 1 []:=rfl
def stO (k:Option Blk) (b size i o m:Nat) (x:V) (h:aZ):Option (V×Upd):=match k with
 |some k=>if k.rows.length=m then (match k.rows[i]? with
  |some row=>
   if k.op then
    (if x.cells.length=size/\o+size<=row.length/\x.cells.all V.cell then
     some (.undef,[(b,{ k with rows:=k.rows.set i (row.take o++(x.cells++row.drop (o+size))) })]) else none)
   else match nJ h x.cells with
    |some (cs,bs)=>if cs.length=size/\o+size<=row.length/\ ¬b∈bs then
     some (.undef,jo bs++[(b,{ k with rows:=k.rows.set i (row.take o++(cs++row.drop (o+size))) })]) else none
    |none=>none
  |none=>none) else none
 |none=>none
def a6F (size:Nat) (a x:V) (h:aZ):Option (V×Upd):=match a with
 | .ptr b i o m=>stO (h b) b size i o m x h
 |_=>none
theorem b7K (size:Nat) (a x:Opd):aN C ow (.store size a x) ev h n=a6F size (ev a) (ev x) h:=by
 simp only [aN,a6F,stO]
 cases ev a with
 |ptr b i o m=>dsimp only;cases h b<;>rfl
 |_=>rfl
theorem b5A (size b i o m:Nat) (x:V):a6F size (.ptr b i o m) x h=stO (h b) b size i o m x h:=rfl
theorem a67 (m b size o:Nat) (row:List V) (x:V):stO (some ⟨m,true,[row]⟩) b size 0 o 1 x h=
 br (Nat.beq x.cells.length size&&(Nat.ble (o+size) row.length&&x.cells.all V.cell)) (some (.undef,[(b,⟨m,true,[row.take o++(x.cells++row.drop (o+size))]⟩)])) none:=by
 rw [TM,Pa]
 by_cases h1:x.cells.length=size<;>by_cases h2:o+size<=row.length<;>cases h3:x.cells.all V.cell<;>simp [stO,h1,h2,h3,br]
def stT (r:List (List V)) (m b size i o:Nat) (row:List V):Option (List V×List Nat)->Option (V×Upd)
 |some (cs,bs)=>br (Nat.beq cs.length size&&(Nat.ble (o+size) row.length&& !bs.contains b)) (some (.undef,jo bs++[(b,⟨m,false,iV r i (row.take o++(cs++row.drop (o+size)))⟩)])) none
 |none=>none
theorem a3I (r:List (List V)) (m b size i o:Nat) (row cs:List V) (bs:List Nat):stT r m b size i o row (some (cs,bs))=
 br (Nat.beq cs.length size&&(Nat.ble (o+size) row.length&& !bs.contains b)) (some (.undef,jo bs++[(b,⟨m,false,iV r i (row.take o++(cs++row.drop (o+size)))⟩)])) none:=rfl
theorem c3T (m b size i o q:Nat) (x:V) (hq:l.length=q):stO (some ⟨m,false,rws e l⟩) b size i o q x h=(l[i]?).bind (fun y=>stT (rws e l) m b size i o (e.enc y) (nJ h x.cells)):=by
 simp only [stO]
 have:(rws e l).length=q:=by simp [rws,hq]
 rw [ae this]
 have h2:(rws e l)[i]? =(l[i]?).map e.enc:=by simp [rws]
 rw [h2]
 cases hl:l[i]? with
 |none=>rfl
 |some y=>
  simp only [ej,Option.bind_some]
  cases hs:nJ h x.cells with
  |none=>simp [stT]
  |some p=>
   obtain ⟨cs,bs⟩:=p
   rw [a3I,TM,Pa]
   by_cases h1:cs.length=size<;>by_cases h2:o+size<=(e.enc y).length<;>by_cases h3:b∈bs<;>simp [h1,h2,h3,br,iV]
def psC (i:Nat):Option (List V×List Nat)->Option (List (Nat×V)×List Nat)->Option (List (Nat×V)×List Nat)
 |some (cs,bs),some (r',bs')=>some ((i,.agg cs)::r',bs++bs')
 |_,_=>none
theorem W4:eD h ev []=some ([],[]):=rfl
theorem Su (i:Nat) (x:Opd) (r:List (Nat×Opd)):eD h ev ((i,x)::r)=psC i (nJ h (ev x).cells) (eD h ev r):=by
 simp only [eD,psC]
 cases nJ h (ev x).cells<;>cases eD h ev r<;>rfl
theorem b3f (i:Nat) (cs:List V) (bs:List Nat) (r:List (Nat×V)) (bs':List Nat):psC i (some (cs,bs)) (some (r,bs'))=some ((i,.agg cs)::r,bs++bs'):=rfl
def LS (esz:Nat) (rows:List (List V)):List (Nat×V)->Option (List (List V))
 |[]=>some rows
 | (i,v)::r=>br (Nat.beq v.cells.length esz&&(Nat.blt i rows.length&&v.cells.all V.cell)) (LS esz (rows.set i v.cells) r) none
theorem a3G (esz:Nat): ∀(ps:List (Nat×V)) (rows:List (List V)),Qr esz rows ps=LS esz rows ps
 |[],_=>rfl
 | (i,v)::r,rows=>by
   simp only [Qr,LS,TM,MZ]
   rw [<-a3G esz r]
   by_cases h1:v.cells.length=esz<;>by_cases h2:i<rows.length<;>cases h3:v.cells.all V.cell<;>simp [h1,h2,br]
def c2N (u0:Upd):Option (V×Upd)->Option (V×Upd)
 |some (v,u)=>some (v,u0++u)
 |none=>none
theorem b0E (u0 u:Upd) (v:V):c2N u0 (some (v,u))=some (v,u0++u):=rfl
def bsR (esz len:Nat) (zero:List Value) (bs:List Nat) (h:aZ) (n:Nat):Option (List (List V))->Option (V×Upd)
 |some rows=>br (Nat.beq zero.length esz&&(zero.all ck&&(Nat.ble (len*esz) 16777216&& !bs.contains n))) (c2N (jo bs) (frO (h n) n ⟨esz,false,mkR n rows⟩ (.sl n 0 len))) none
 |none=>none
def bsS (esz len:Nat) (zero:List Value) (h:aZ) (n:Nat):Option (List (Nat×V)×List Nat)->Option (V×Upd)
 |some (ps,bs)=>bsR esz len zero bs h n (LS esz (List.replicate len (zero.map zc)) ps)
 |none=>none
theorem YF (esz len:Nat) (zero:List Value) (ps:List (Nat×Opd)):aN C ow (.buildSlice esz zero len ps) ev h n=bsS esz len zero h n (eD h ev ps):=by
 simp only [aN,bsS,a3G,BV]
 cases eD h ev ps with
 |none=>rfl
 |some p=>
  obtain ⟨qs,bs⟩:=p
  dsimp only
  cases LS esz (List.replicate len (zero.map zc)) qs with
  |none=>rfl
  |some rows=>
   simp only [bsR,TM,Pa,mkR]
   by_cases h1:zero.length=esz<;>cases h2:zero.all ck<;>by_cases h3:len*esz<=16777216<;>by_cases h4:n∈bs<;>simp [h1,h3,h4,br]
   cases frO (h n) n ⟨esz,false,rows⟩ (.sl n 0 len)<;>rfl
theorem b62 (esz len:Nat) (zero:List Value) (ps:List (Nat×V)) (bs:List Nat):bsS esz len zero h n (some (ps,bs))=bsR esz len zero bs h n (LS esz (List.replicate len (zero.map zc)) ps):=rfl
theorem b6x (esz len:Nat) (zero:List Value) (bs:List Nat) (rows:List (List V)):bsR esz len zero bs h n (some rows)=br (Nat.beq zero.length esz&&(zero.all ck&&(Nat.ble (len*esz) 16777216&& !bs.contains n))) (c2N (jo bs) (frO (h n) n ⟨esz,false,mkR n rows⟩ (.sl n 0 len))) none:=rfl
def tbS (x:V) (h:aZ) (n:Nat):Option (V×Upd):=match x with
 | .lit (.string s)=>if s.size<=cU then ng h n ⟨1,false,s.data.toList.map fun b=>[.lit (.int .u8 b.toNat)]⟩ (.sl n 0 s.size) else none
 |_=>none
theorem b0v (x:Opd):aN C ow (.toBytes x) ev h n=tbS (ev x) h n:=rfl
theorem c4M (s:List UInt8):tbS (S s) h n=br (cP s.length 1) (frO (h n) n ⟨1,false,rws eU8 s⟩ (.sl n 0 s.length)) none:=by
 simp only [tbS,YN,cP,qE,BV]
 by_cases h1:s.length<=cU<;>simp [h1,br]
 rfl
def boS (x:V) (h:aZ):Option (V×Upd):=match x with
 | .sl b s n=>match h b with
   |some k=>if k.op=false/\0<k.esz/\s+n=k.rows.length/\0<n then some (.sl b s n,[(b,k)]) else none
   |none=>none
 |_=>none
theorem a5R (x:Opd):aN C ow (.bytesOwn x) ev h n=boS (ev x) h:=rfl
def boO (k:Option Blk) (b s n:Nat):Option (V×Upd):=match k with
 |some k=>if k.op=false/\0<k.esz/\s+n=k.rows.length/\0<n then some (.sl b s n,[(b,k)]) else none
 |none=>none
theorem b7T (b s q:Nat):boS (.sl b s q) h=boO (h b) b s q:=rfl
theorem c2d (b m q:Nat) (h0:Nat.blt 0 m=true) (hq:l.length=q):boO (some ⟨m,false,rws e l⟩) b 0 q=br (decide (0<q)) (some (.sl b 0 q,[(b,⟨m,false,rws e l⟩)])) none:=by
 rw [MZ,aG] at h0
 by_cases h1:0<q<;>simp [boO,rws,hq,h0,h1,br]
theorem a2r (l:List UInt8):aN.bytesOf (rws eU8 l)=some l:=by
 induction l with
 |nil=>rfl
 |cons b l ih=>
  simp only [rws,aS,eU8] at ih ⊢
  simp only [aN.bytesOf]
  have h1:(0:Int)<=(b.toNat:Int)/\(b.toNat:Int)<256:=⟨by omega,by have:=b.toNat_lt;omega⟩
  rw [ae h1,ih]
  simp
noncomputable def tsR:Option (List (List V))->Option (V×Upd)
 |some rows=>match aN.bytesOf rows with
  |some l=>some (.lit (.string ⟨l.toArray⟩),[])
  |none=>none
 |none=>none
noncomputable def tsS (x:V) (h:aZ):Option (V×Upd):=br (a8v x) none (tsR (eu h 1 x))
theorem b74 (x:Opd):aN C ow (.toStr x) ev h n=tsS (ev x) h:=by
 simp only [aN,tsS,tsR]
 cases a8v (ev x)
 ·simp only [bA,if_false,bf]
  cases eu h 1 (ev x)<;>rfl
 ·rfl
theorem b3Q (l:List UInt8):tsR (some (rws eU8 l))=some (S l,[]):=by
 simp only [tsR,a2r]
theorem c1T (l:List UInt8):tsS (sl eU8 l) h=some (S l,[]):=by
 rw [tsS,a3K,bf,Xd 1 rfl,b3Q]
def roO (k:Option Blk) (m s q:Nat):Option (List (List V)):=match k with
 |some k=>if k.op=false/\0<k.esz/\k.esz=m/\s+q=k.rows.length then some (k.rows.drop s) else none
 |none=>none
theorem a6T (m b s q:Nat):eu h m (.sl b s q)=roO (h b) m s q:=rfl
theorem c1C (m q:Nat) (h0:Nat.blt 0 m=true) (hq:l.length=q):roO (some ⟨m,false,rws e l⟩) m 0 q=some (rws e l):=by
 rw [MZ,aG] at h0
 simp [roO,rws,hq,h0]
theorem b89 (b s q:Nat):tsS (.sl b s q) h=tsR (roO (h b) 1 s q):=rfl
def c1r (esz bytes:Nat) (zero:List Value) (len cap:V) (h:aZ) (n:Nat):Option (V×Upd):=match asI len,asI cap with
 |some l,some c=>if 0<=l/\l<=c/\c*bytes<=cU/\c*esz<=cU/\zero.length=esz/\zero.all ck then
  ng h n ⟨esz,false,List.replicate l.toNat (zero.map zc)⟩ (.sl n 0 l.toNat) else none
 |_,_=>none
theorem a3f (esz bytes:Nat) (zero:List Value) (len cap:Opd):aN C ow (.makeSlice esz bytes zero len cap) ev h n=c1r esz bytes zero (ev len) (ev cap) h n:=rfl
theorem c3f (esz bytes:Nat) (zero:List Value) (k k':IntKind) (a c:Int) (hb:Nat.ble esz bytes=true) (hz:Nat.beq zero.length esz=true) (hz2:zero.all ck=true):
 c1r esz bytes zero (.lit (.int k a)) (.lit (.int k' c)) h n=br (zJ a c bytes) (frO (h n) n ⟨esz,false,Ck n a.toNat (zero.map zc)⟩ (.sl n 0 (a8k (Ck n a.toNat (zero.map zc))))) none:=by
 have hz3:=i5 hz
 have hb2:=dl hb
 simp only [c1r,asI,zJ,hz3,hz2,BV,Ck,a8k,aQ]
 by_cases h1:0<=a<;>by_cases h2:a<=c<;>by_cases h3:c*bytes<=cU<;>simp [h1,h2,h3,br]
 intro h4
 exfalso
 have:c*esz<=c*bytes:=Int.mul_le_mul_of_nonneg_left (by omega) (by omega)
 omega
def slS (esz:Nat) (x:V) (lo hi mx:Option V) (h:aZ):Option (V×Upd):=match mx with
 |some _=>none
 |none=>match x with
  | .lit (.slice none 0 0)=>match dt hi 0 0 with
    |some q=>match dt lo 0 q with
     |some _=>some (.lit (.slice none 0 0),[])
     |none=>none
    |none=>none
  | .sl b s n=>match h b with
    |some k=>if k.op=false/\0<k.esz/\k.esz=esz/\s+n=k.rows.length then (match dt hi n n with
     |some q=>match dt lo 0 q with
      |some p=>if q=n then some (.sl b (s+p) (n-p),[]) else some ((V.imm esz (((k.rows.drop s).take q).drop p)).cz,[(b,nG)])
      |none=>none
     |none=>none) else none
    |none=>none
  | .imm e rows=>if e=esz\/rows=[] then (match dt hi rows.length rows.length with
   |some q=>match dt lo 0 q with
    |some p=>some ((V.imm e ((rows.take q).drop p)).cz,[])
    |none=>none
   |none=>none) else none
  |_=>none
theorem b7W (esz:Nat) (x:Opd) (lo hi:Option Opd):aN C ow (.slice esz x lo hi none) ev h n=slS esz (ev x) (lo.map ev) (hi.map ev) none h:=rfl
theorem Lr (d m:Nat):dt none d m=some d:=rfl
theorem Hr (k:IntKind) (i:Int) (d m:Nat):dt (some (.lit (.int k i))) d m=if 0<=i/\i<=m then some i.toNat else none:=rfl
theorem ZK (m:Nat) (hm:e.esz=m) (lo hi:Option V):slS m (sl e l) lo hi none h=(match dt hi l.length l.length with
 |some q=>match dt lo 0 q with
  |some p=>some (sl e ((l.take q).drop p),[])
  |none=>none
 |none=>none):=by
 subst hm
 rcases nH e l with ⟨rfl,hs⟩|⟨hne,hs⟩
 ·rw [hs]
  simp only [slS,ai,or_true,if_true]
  cases dt hi 0 0 with
  |none=>rfl
  |some q=>cases dt lo 0 q<;>simp [c3B,V.cz]
 ·rw [hs]
  simp only [slS,true_or,if_true,rws,aM]
  cases dt hi l.length l.length with
  |none=>rfl
  |some q=>cases dt lo 0 q<;>simp [sl,rws, <-List.map_take, <-List.map_drop]
theorem c3E (m:Nat) (hm:e.esz=m) (k:IntKind) (a:Int):slS m (sl e l) (some (.lit (.int k a))) none none h=(lh l a l.length).bind (fun l'=>some (sl e l',[])):=by
 rw [ZK m hm]
 simp only [Lr,Hr,lh]
 by_cases h1:0<=a<;>by_cases h2:a<=(l.length:Int)<;>simp [h1,h2]
theorem c1z (m:Nat) (hm:e.esz=m) (k:IntKind) (b:Int):slS m (sl e l) none (some (.lit (.int k b))) none h=(lh l 0 b).bind (fun l'=>some (sl e l',[])):=by
 rw [ZK m hm]
 simp only [Lr,Hr,lh]
 by_cases h1:0<=b<;>by_cases h2:b<=(l.length:Int)<;>simp [h1,h2]
theorem c1Y (m:Nat) (hm:e.esz=m) (k k':IntKind) (a b:Int):slS m (sl e l) (some (.lit (.int k a))) (some (.lit (.int k' b))) none h=(lh l a b).bind (fun l'=>some (sl e l',[])):=by
 rw [ZK m hm]
 simp only [Hr,lh]
 by_cases h1:0<=b<;>by_cases h2:b<=(l.length:Int)<;>by_cases h3:0<=a<;>by_cases h4:a<=b
 all_goals (have e1:((b.toNat:Nat):Int)=b\/ ¬0<=b:=by omega)
 all_goals (rcases e1 with e1|e1)
 all_goals (first|omega| (simp [h1,h2,h3,h4,e1];try omega))
def slO (k:Option Blk) (m b s q:Nat) (a:Int):Option (V×Upd):=match k with
 |some k=>if k.op=false/\0<k.esz/\k.esz=m/\s+q=k.rows.length then (if 0<=a/\a<=q then some (.sl b (s+a.toNat) (q-a.toNat),[]) else none) else none
 |none=>none
def ssS (x:V) (lo hi:Option V):Option (V×Upd):=match x with
 | .lit (.string s)=>match dt hi s.size s.size with
   |some b=>match dt lo 0 b with
    |some a=>some (.lit (.string (s.extract a b)),[])
    |none=>none
   |none=>none
 |_=>none
theorem a7I (x:Opd) (lo hi:Option Opd):aN C ow (.sliceStr x lo hi) ev h n=ssS (ev x) (lo.map ev) (hi.map ev):=rfl
theorem a6B (s:List UInt8) (a b:Nat):(⟨⟨s⟩⟩:ByteArray).extract a b=⟨⟨(s.take b).drop a⟩⟩:=by
 apply ByteArray.ext
 rw [ByteArray.data_extract]
 apply eO
 simp [List.extract_eq_take_drop,List.drop_take]
theorem YV (s:List UInt8) (lo hi:Option V):ssS (S s) lo hi=(match dt hi s.length s.length with
 |some q=>match dt lo 0 q with
  |some p=>some (S ((s.take q).drop p),[])
  |none=>none
 |none=>none):=by
 simp only [ssS,YN,a6B]
theorem c1I (s:List UInt8) (k:IntKind) (a:Int):ssS (S s) (some (.lit (.int k a))) none=(lh s a s.length).bind (fun l'=>some (S l',[])):=by
 rw [YV]
 simp only [Lr,Hr,lh]
 by_cases h1:0<=a<;>by_cases h2:a<=(s.length:Int)<;>simp [h1,h2]
theorem c1G (s:List UInt8) (k:IntKind) (b:Int):ssS (S s) none (some (.lit (.int k b)))=(lh s 0 b).bind (fun l'=>some (S l',[])):=by
 rw [YV]
 simp only [Lr,Hr,lh]
 by_cases h1:0<=b<;>by_cases h2:b<=(s.length:Int)<;>simp [h1,h2]
theorem c1Q (s:List UInt8) (k k':IntKind) (a b:Int):ssS (S s) (some (.lit (.int k a))) (some (.lit (.int k' b)))=(lh s a b).bind (fun l'=>some (S l',[])):=by
 rw [YV]
 simp only [Hr,lh]
 by_cases h1:0<=b<;>by_cases h2:b<=(s.length:Int)<;>by_cases h3:0<=a<;>by_cases h4:a<=b
 all_goals (have e1:((b.toNat:Nat):Int)=b\/ ¬0<=b:=by omega)
 all_goals (rcases e1 with e1|e1)
 all_goals (first|omega| (simp [h1,h2,h3,h4,e1];try omega))
noncomputable def apS (esz bytes:Nat) (zero:List Value) (x y:V) (h:aZ) (n:Nat):Option (List (List V))->Option (V×Upd)
 |none=>none
 |some new_=>if zero.length=esz/\0<esz/\new_.length*bytes<=cU/\new_.length*esz<=cU then
  (match x with
  | .sl b 0 n=>match h b with
    |some k=>if k.op=false/\0<k.esz/\k.esz=esz/\n=k.rows.length/\(n+new_.length)*bytes<=cU/\(n+new_.length)*esz<=cU/\aN.selfOk b y then
     some (.sl b 0 (n+new_.length),[(b,{ k with rows:=k.rows++new_ })]) else none
    |none=>none
  | .lit (.slice none 0 0)=>ng h n ⟨esz,false,new_⟩ (.sl n 0 new_.length)
  | .imm 0 []=>ng h n ⟨esz,false,new_⟩ (.sl n 0 new_.length)
  |_=>none) else none
theorem b2i (esz bytes:Nat) (zero:List Value) (x y:Opd):aN C ow (.append esz bytes zero x y) ev h n=apS esz bytes zero (ev x) (ev y) h n (eu h esz (ev y)):=by
 simp only [aN]
 cases eu h esz (ev y) with
 |none=>rfl
 |some r=>rfl
noncomputable def Tf (b:Nat) (y:V):Bool:=aN.selfOk b y
theorem b61 (b:Nat):Tf b (sl e l)=true:=by
 rcases nH e l with ⟨_,h⟩|⟨_,h⟩<;>rw [h]<;>rfl
theorem b1k (b b' s q:Nat):Tf b (.sl b' s q)=(b !=b'):=rfl
def apO (k:Option Blk) (esz bytes:Nat) (zero:List Value) (b q:Nat) (sb:Bool) (new_:List (List V)):Option (V×Upd):=match k with
 |some k=>if zero.length=esz/\0<esz/\new_.length*bytes<=cU/\new_.length*esz<=cU then
  (if k.op=false/\0<k.esz/\k.esz=esz/\q=k.rows.length/\(q+new_.length)*bytes<=cU/\(q+new_.length)*esz<=cU/\sb=true then
        some (.sl b 0 (q+new_.length),[(b,{ k with rows:=k.rows++new_ })]) else none) else none
 |none=>none
theorem b8k (esz bytes:Nat) (zero:List Value) (b q:Nat) (y:V) (new_:List (List V)):apS esz bytes zero (.sl b 0 q) y h n (some new_)=apO (h b) esz bytes zero b q (Tf b y) new_:=by
 simp only [apS,apO,Tf]
 cases h b with
 |none=>simp
 |some k=>rfl
theorem c2I (m bytes:Nat) (zero:List Value) (b q:Nat) (sb:Bool) (hz:Nat.beq zero.length m=true) (h0:Nat.blt 0 m=true) (hb:Nat.ble m bytes=true) (hq:l.length=q) (hs:sb=true):
 apO (some ⟨m,false,rws e l⟩) m bytes zero b q sb (rws e l2)=br (cP (l++l2).length bytes) (some (.sl b 0 (l++l2).length,[(b,⟨m,false,rws e (l++l2)⟩)])) none:=by
 have hz3:=i5 hz
 have hb2:=dl hb
 rw [MZ,aG] at h0
 subst hs hq
 simp only [apO,cP,rws,aM,ab,cJ]
 have e1:(l.length+l2.length)*m<=(l.length+l2.length)*bytes:=iK _ hb2
 have e2:l2.length*bytes<=(l.length+l2.length)*bytes:=bt _ (by omega)
 have e3:l2.length*m<=l2.length*bytes:=iK _ hb2
 by_cases hf:(l.length+l2.length)*bytes<=cU
 ·rw [ae ⟨hz3,h0,by omega,by omega⟩,ae ⟨by trivial,h0,by trivial,by trivial,hf,by omega,by trivial⟩,al hf,cO]
 ·rw [ag hf,bf]
  split
  ·rw [aa (fun hc=>hf hc.2.2.2.2.1)]
  ·rfl
theorem b78 (m bytes:Nat) (zero:List Value) (y:V) (hz:Nat.beq zero.length m=true) (h0:Nat.blt 0 m=true) (hb:Nat.ble m bytes=true):
 apS m bytes zero (.lit (.slice none 0 0)) y h n (some (rws e l2))=br (cP l2.length bytes) (frO (h n) n ⟨m,false,rws e l2⟩ (.sl n 0 l2.length)) none:=by
 have hz3:=i5 hz
 have hb2:=dl hb
 rw [MZ,aG] at h0
 simp only [apS,cP,BV]
 have hl:(rws e l2).length=l2.length:=by simp [rws]
 rw [hl]
 have e3:l2.length*m<=l2.length*bytes:=iK _ hb2
 by_cases hf:l2.length*bytes<=cU
 ·rw [ae ⟨hz3,h0,hf,by omega⟩,al hf,cO]
 ·rw [ag hf,bf,aa (fun hc=>hf hc.2.2.1)]
def Gy (l:List α) (s k:Nat) (l2:List α):List α:=l.take s++(l2.take k++l.drop (s+k))
def c3h (esz bytes:Nat) (zero:List Value) (x y:V) (h:aZ) (n:Nat):Option (V×Upd):=match asI y with
 |some l=>if 0<=l/\l<=1099511627776/\l*bytes<=1099511627776/\zero.all ck then Kq esz bytes zero x (fun _=>true) h n (List.replicate l.toNat (zero.map zc)) else none
 |none=>none
theorem a9k (esz bytes:Nat) (zero:List Value) (x y:Opd):aN C ow (.appendN esz bytes zero x y) ev h n=c3h esz bytes zero (ev x) (ev y) h n:=rfl
theorem b5o (m bytes:Nat) (zero:List Value) (b q:Nat) (k:IntKind) (a:Int) (hz2:zero.all ck=true):
 c3h m bytes zero (.sl b 0 q) (.lit (.int k a)) h n=br (zJ a a bytes&&decide (a<=1099511627776)) (apO (h b) m bytes zero b q true (Ck n a.toNat (zero.map zc))) none:=by
 simp only [c3h,asI,zJ,hz2,Ck,cU]
 by_cases h1:0<=a<;>by_cases h2:a*bytes<=1099511627776<;>by_cases h3:a<=1099511627776<;>simp [h1,h2,h3,br]
 simp only [Kq,apO]
 cases h b with
 |none=>simp
 |some kk=>rfl
noncomputable def cpS (esz:Nat) (x y:V) (h:aZ):Option (List (List V))->Option (V×Upd)
 |some rows=>match x with
  | .sl b s n=>match h b with
    |some k=>if k.op=false/\0<k.esz/\k.esz=esz/\s+n=k.rows.length/\aN.selfOk b y then
     some (.lit (.int .i64 (min rows.length n)),[(b,{ k with rows:=k.rows.take s++(rows.take (min rows.length n)++k.rows.drop (s+min rows.length n)) })]) else none
    |none=>none
  |_=>none
 |none=>none
theorem c0F (esz:Nat) (x y:Opd):aN C ow (.copy esz x y) ev h n=cpS esz (ev x) (ev y) h (eu h esz (ev y)):=by
 simp only [aN,cpS]
 cases eu h esz (ev y) with
 |none=>rfl
 |some r=>cases ev x<;>rfl
def cpO (k:Option Blk) (esz b s q:Nat) (sb:Bool) (rows:List (List V)):Option (V×Upd):=match k with
 |some k=>if k.op=false/\0<k.esz/\k.esz=esz/\s+q=k.rows.length/\sb=true then
  some (.lit (.int .i64 (min rows.length q)),[(b,{ k with rows:=k.rows.take s++(rows.take (min rows.length q)++k.rows.drop (s+min rows.length q)) })]) else none
 |none=>none
theorem b8h (esz b s q:Nat) (y:V) (rows:List (List V)):cpS esz (.sl b s q) y h (some rows)=cpO (h b) esz b s q (Tf b y) rows:=by
 simp only [cpS,cpO,Tf]
 cases h b<;>rfl
theorem c1k (m b s q:Nat) (sb:Bool) (h0:Nat.blt 0 m=true) (hs:sb=true):cpO (some ⟨m,false,rws e l⟩) m b s q sb (rws e l2)=
 br (decide (s+q=l.length)) (some (I (min (l2.length:Int) (q:Int)),[(b,⟨m,false,rws e (Gy l s (min l2.length q) l2)⟩)])) none:=by
 rw [MZ,aG] at h0
 subst hs
 simp only [cpO]
 by_cases hq:s+q=l.length
 ·rw [ae ⟨by trivial,h0,by trivial,by simp [rws,hq],by trivial⟩,al hq,cO]
  simp [rws,Gy,List.map_take,List.map_drop]
 ·rw [ag hq,bf,aa (fun hc=>hq (by simpa [rws] using hc.2.2.2.1))]
def ncS (x:V) (h:aZ):Option (V×Upd):=match x with
 | .ptr b i o n=>match h b with
   |some k=>if k.rows.length=n/\i<n then some (.ptr b i o n,[]) else none
   |none=>none
 | .iptr r o=>some (.iptr r o,[])
 | .fn f c=>some (.fn f c,[])
 |_=>none
theorem a5q (x:Opd):aN C ow (.nilCheck x) ev h n=ncS (ev x) h:=by
 simp only [aN,ncS]
 cases ev x<;>rfl
def ncO (k:Option Blk) (b i o m:Nat):Option (V×Upd):=match k with
 |some k=>if k.rows.length=m/\i<m then some (.ptr b i o m,[]) else none
 |none=>none
theorem c4w (b i o m:Nat):ncS (.ptr b i o m) h=ncO (h b) b i o m:=rfl
theorem c2v (b o m:Nat) (row:List V):ncO (some ⟨m,true,[row]⟩) b 0 o 1=some (.ptr b 0 o 1,[]):=rfl
def mxS (x y:V):Option (V×Upd):=match x,y with
 | .lit (.int k a),.lit (.int _ b)=>some (.lit (.int k (if b>a then b else a)),[])
 |_,_=>none
theorem c2X (x y:Opd):aN C ow (.max2 x y) ev h n=mxS (ev x) (ev y):=by
 simp only [aN,mxS]
 cases ev x<;>cases ev y<;>rfl
theorem c56 (k k':IntKind) (a b:Int):mxS (.lit (.int k a)) (.lit (.int k' b))=some (.lit (.int k (mx a b)),[]):=rfl
def mnS (x y:V):Option (V×Upd):=match x,y with
 | .lit (.int k a),.lit (.int _ b)=>some (.lit (.int k (if b<a then b else a)),[])
 |_,_=>none
theorem c1W (x y:Opd):aN C ow (.min2 x y) ev h n=mnS (ev x) (ev y):=by
 simp only [aN,mnS]
 cases ev x<;>cases ev y<;>rfl
theorem c4E (k k':IntKind) (a b:Int):mnS (.lit (.int k a)) (.lit (.int k' b))=some (.lit (.int k (mn a b)),[]):=rfl
noncomputable def O1 (fl ro:Bool) (h:aZ) (new:Nat) (ids bor:List Nat):Option (V×List Blk)->Option (V×Upd)
 |some (r,bs)=>roW ro h (z6 fl h new ids bor r bs)
 |none=>none
noncomputable def roX (k':Option Blk) (b:Nat) (k:Blk) (x:Option Upd):Option Upd:=match k' with
 |none=>x.map ((b,k):: ·)
 |some k'=>open Classical in if k'=k then x else none
def roE (v:V):Option Upd->Option (V×Upd)
 |some u=>some (v,u)
 |none=>none
noncomputable def Xw (C:cg) (ow:FuncId->List Nat) (h:aZ) (new:Nat) (f:FuncId):Option (List V×List Blk×List Nat×List Nat)->Option (V×Upd)
 |some (args',blks,ids,bor)=>O1 ((ow f).contains 2000) ((ow f).contains 3000) h new ids bor (C f (vv (ow f) args') (vd (ow f) blks))
 |none=>none
theorem WN (f:FuncId) (args:List V):oC C ow h n f args=Xw C ow h n f (ft ow h f args):=by
 unfold oC Xw O1
 cases ft ow h f args with
 |none=>rfl
 |some p=>obtain ⟨a,b,c,d⟩:=p;dsimp only;cases C f (vv (ow f) a) (vd (ow f) b)<;>rfl
theorem c0u (f:FuncId) (args:List Opd):aN C ow (.call f args) ev h n=Xw C ow h n f (ft ow h f (args.map ev)):=WN _ _
noncomputable def c2w (C:cg) (ow:FuncId->List Nat) (h:aZ) (n:Nat) (args:List V):V->Option (V×Upd)
 | .fn k caps=>Xw C ow h n k (ft ow h k (args++caps))
 |_=>none
theorem c4l (f:Opd) (args:List Opd):aN C ow (.dyn f args) ev h n=c2w C ow h n (args.map ev) (ev f):=by
 simp only [aN,c2w]
 cases ev f<;>first|rfl|exact WN _ _
theorem b7V (args:List V) (k:FuncId) (caps:List V):c2w C ow h n args (.fn k caps)=Xw C ow h n k (ft ow h k (args++caps)):=rfl
theorem a7n (f:FuncId) (a:List V) (b:List Blk) (c d:List Nat):Xw C ow h n f (some (a,b,c,d))=O1 ((ow f).contains 2000) ((ow f).contains 3000) h n c d (C f (vv (ow f) a) (vd (ow f) b)):=rfl
def a8Q (args':List V) (bor:List Nat):Option (List Blk×List Nat)->Option (List V×List Blk×List Nat×List Nat)
 |some (blks,ids)=>br (bor.any (fun b=>decide (b∈ids))) none (some (args',blks,ids,bor))
 |none=>none
def b2M (h:aZ):Option (List V×List Nat×List Nat)->Option (List V×List Blk×List Nat×List Nat)
 |some (args',ids0,bor)=>a8Q args' bor (fM h 40 0 ids0)
 |none=>none
theorem a3H (f:FuncId) (args:List V):ft ow h f args=b2M h (jR h (ow f) 0 [] args):=by
 unfold ft b2M a8Q
 cases jR h (ow f) 0 [] args with
 |none=>rfl
 |some p=>
  obtain ⟨a,i,b⟩:=p
  dsimp only
  cases fM h 40 0 i with
  |none=>rfl
  |some q=>
   obtain ⟨bl,ids⟩:=q
   dsimp only
   cases hb:b.any (fun b=>decide (b∈ids))<;>simp [br]
theorem a6i (a:List V) (i b:List Nat):b2M h (some (a,i,b))=a8Q a b (fM h 40 0 i):=rfl
theorem a7b (a:List V) (b:List Nat) (bl:List Blk) (ids:List Nat):a8Q a b (some (bl,ids))=br (b.any (fun b=>decide (b∈ids))) none (some (a,bl,ids,b)):=rfl
def la2 (v':V) (bs:List Nat):Option (List V×List Nat×List Nat)->Option (List V×List Nat×List Nat)
 |some (r',ids'',bs')=>some (v'::r',ids'',bs++bs')
 |none=>none
def la1 (h:aZ) (owns:List Nat) (j:Nat) (r:List V):Option (V×List Nat×List Nat)->Option (List V×List Nat×List Nat)
 |some (v',ids',bs)=>la2 v' bs (jR h owns (j+1) ids' r)
 |none=>none
theorem a47 (owns:List Nat) (j:Nat) (ids:List Nat):jR h owns j ids []=some ([],ids,[]):=rfl
theorem Yl (owns:List Nat) (j:Nat) (ids:List Nat) (v:V) (r:List V):jR h owns j ids (v::r)=la1 h owns j r (fU h (owns.contains j) ids v):=by
 have:decide (j∈owns)=owns.contains j:=by simp [List.contains_iff_mem,px]
 simp only [jR,la1,la2,this]
 cases fU h (owns.contains j) ids v with
 |none=>rfl
 |some p=>obtain ⟨a,b,c⟩:=p;dsimp only;cases jR h owns (j+1) b r<;>rfl
theorem b5R (owns:List Nat) (j:Nat) (r:List V) (v':V) (ids' bs:List Nat):la1 h owns j r (some (v',ids',bs))=la2 v' bs (jR h owns (j+1) ids' r):=rfl
theorem b3B (v':V) (bs:List Nat) (r':List V) (i b:List Nat):la2 v' bs (some (r',i,b))=some (v'::r',i,bs++b):=rfl
def lcP (k:Option Blk) (ids:List Nat) (b i o m:Nat):Option (V×List Nat×List Nat):=match k with
 |some k=>if k.rows.length=m then some (.ptr (kV b (gx ids b)) i o m,gx ids b,[]) else none
 |none=>none
def lcO (k:Option Blk) (own:Bool) (ids:List Nat) (b s q:Nat):Option (V×List Nat×List Nat):=match k with
 |some k=>if s+q=k.rows.length then
  (if own then some (.sl (kV b (gx ids b)) s q,gx ids b,[]) else if k.op=false/\0<k.esz then some (.imm k.esz (k.rows.drop s),ids,[b]) else none) else none
 |none=>none
theorem b5v (own:Bool) (ids:List Nat) (v:Value):dZ h own ids (.lit v)=some (.lit v,ids,[]):=rfl
theorem c2r (own:Bool) (ids:List Nat) (b i o m:Nat):dZ h own ids (.ptr b i o m)=lcP (h b) ids b i o m:=rfl
theorem c1P (own:Bool) (ids:List Nat) (b s q:Nat):dZ h own ids (.sl b s q)=lcO (h b) own ids b s q:=rfl
theorem Sf (own:Bool) (ids:List Nat) (v:Value):fU h own ids (.lit v)=some (.lit v,ids,[]):=rfl
theorem c2x (own:Bool) (ids:List Nat) (b i o m:Nat):fU h own ids (.ptr b i o m)=lcP (h b) ids b i o m:=rfl
theorem c1m (own:Bool) (ids:List Nat) (b s q:Nat):fU h own ids (.sl b s q)=lcO (h b) own ids b s q:=rfl
def lcA (mk:List V->V):Option (List V×List Nat×List Nat)->Option (V×List Nat×List Nat)
 |some (cs',ids',bs)=>some (mk cs',ids',bs)
 |none=>none
theorem c0O (own:Bool) (ids:List Nat) (cs:List V):fU h own ids (.agg cs)=lcA V.agg (eP h own ids cs):=by
 simp only [fU,lcA]
 cases eP h own ids cs<;>rfl
theorem c4P (own:Bool) (ids:List Nat) (f:FuncId) (cs:List V):fU h own ids (.fn f cs)=lcA (V.fn f) (eP h true ids cs):=by
 simp only [fU,lcA]
 cases eP h true ids cs<;>rfl
theorem b69 (mk:List V->V) (cs:List V) (i b:List Nat):lcA mk (some (cs,i,b))=some (mk cs,i,b):=rfl
def c1d (h:aZ) (own:Bool) (r:List V):Option (V×List Nat×List Nat)->Option (List V×List Nat×List Nat)
 |some (v',ids',bs)=>la2 v' bs (eP h own ids' r)
 |none=>none
theorem a1C (own:Bool) (ids:List Nat):eP h own ids []=some ([],ids,[]):=rfl
theorem IK (own:Bool) (ids:List Nat) (v:V) (r:List V):eP h own ids (v::r)=c1d h own r (dZ h own ids v):=by
 simp only [eP,c1d,la2]
 cases dZ h own ids v with
 |none=>rfl
 |some p=>obtain ⟨a,b,c⟩:=p;dsimp only;cases eP h own b r<;>rfl
theorem XF (own:Bool) (r:List V) (v':V) (ids' bs:List Nat):c1d h own r (some (v',ids',bs))=la2 v' bs (eP h own ids' r):=rfl
theorem c29 (ids:List Nat) (b o m:Nat) (row:List V):lcP (some ⟨m,true,[row]⟩) ids b 0 o 1=some (.ptr (kV b (gx ids b)) 0 o 1,gx ids b,[]):=rfl
theorem c5s (m:Nat) (ids:List Nat) (b s q:Nat) (hq:s+q=l.length):lcO (some ⟨m,false,rws e l⟩) true ids b s q=some (.sl (kV b (gx ids b)) s q,gx ids b,[]):=by
 simp [lcO,rws,hq]
theorem c4W (m:Nat) (ids:List Nat) (b q:Nat) (h0:Nat.blt 0 m=true) (hq:l.length=q):lcO (some ⟨m,false,rws e l⟩) false ids b 0 q=some (.imm m (rws e l),ids,[b]):=by
 rw [MZ,aG] at h0
 simp [lcO,rws,hq,h0]
def lb2 (k:Blk):Option (List Blk×List Nat)->Option (List Blk×List Nat)
 |some (r,ids')=>some (k::r,ids')
 |none=>none
def ld2 (v':V):Option (List V×List Nat)->Option (List V×List Nat)
 |some (r',i)=>some (v'::r',i)
 |none=>none
def ld1 (h:aZ) (r:List V):Option (V×List Nat×List Nat)->Option (List V×List Nat)
 |some (v',ids',_)=>ld2 v' (rL h ids' r)
 |none=>none
theorem b1B (ids:List Nat):rL h ids []=some ([],ids):=rfl
theorem zs (ids:List Nat) (v:V) (r:List V):rL h ids (v::r)=ld1 h r (fU h true ids v):=by
 simp only [rL,ld1,ld2]
 cases fU h true ids v with
 |none=>rfl
 |some p=>obtain ⟨a,b,c⟩:=p;dsimp only;cases rL h b r<;>rfl
theorem FC (r:List V) (v':V) (ids' bs:List Nat):ld1 h r (some (v',ids',bs))=ld2 v' (rL h ids' r):=rfl
theorem b6f (v':V) (r':List V) (i:List Nat):ld2 v' (some (r',i))=some (v'::r',i):=rfl
def lb1 (h:aZ) (fuel pos m:Nat):Option (List V×List Nat)->Option (List Blk×List Nat)
 |some (row,ids1)=>lb2 ⟨m,true,[row]⟩ (fM h fuel (pos+1) ids1)
 |none=>none
def lb0 (h:aZ) (fuel pos:Nat) (ids:List Nat):Option Blk->Option (List Blk×List Nat)
 |some k=>if k.op=false then lb2 k (fM h fuel (pos+1) ids) else (match pa h ids k.rows with
  |none=>none
  |some (rows,ids1)=>lb2 { k with rows:=rows } (fM h fuel (pos+1) ids1))
 |none=>none
def lbN (h:aZ) (fuel pos:Nat) (ids:List Nat):Option Nat->Option (List Blk×List Nat)
 |none=>some ([],ids)
 |some b=>lb0 h fuel pos ids (h b)
theorem a6N (fuel pos:Nat) (ids:List Nat):fM h (fuel+1) pos ids=lbN h fuel pos ids ids[pos]? :=by
 simp only [fM,lbN,lb0]
 cases ids[pos]? with
 |none=>rfl
 |some b=>
  dsimp only
  cases h b with
  |none=>rfl
  |some k=>
   dsimp only
   split
   ·cases fM h fuel (pos+1) ids<;>rfl
   ·cases pa h ids k.rows with
    |none=>rfl
    |some p=>obtain ⟨rows,ids1⟩:=p;dsimp only;cases fM h fuel (pos+1) ids1<;>rfl
theorem b3u (fuel pos:Nat) (ids:List Nat):lbN h fuel pos ids none=some ([],ids):=rfl
theorem b46 (fuel pos:Nat) (ids:List Nat) (b:Nat):lbN h fuel pos ids (some b)=lb0 h fuel pos ids (h b):=rfl
theorem c3v (fuel pos:Nat) (ids:List Nat) (m:Nat) (r:List (List V)):lb0 h fuel pos ids (some ⟨m,false,r⟩)=lb2 ⟨m,false,r⟩ (fM h fuel (pos+1) ids):=rfl
theorem c3a (fuel pos:Nat) (ids:List Nat) (m:Nat) (row:List V):lb0 h fuel pos ids (some ⟨m,true,[row]⟩)=lb1 h fuel pos m (rL h ids row):=by
 simp only [lb0,pa,lb1]
 cases rL h ids row with
 |none=>rfl
 |some p=>obtain ⟨a,b⟩:=p;rfl
theorem b3G (fuel pos m:Nat) (row:List V) (ids1:List Nat):lb1 h fuel pos m (some (row,ids1))=lb2 ⟨m,true,[row]⟩ (fM h fuel (pos+1) ids1):=rfl
theorem b2c (k:Blk) (r:List Blk) (ids:List Nat):lb2 k (some (r,ids))=some (k::r,ids):=rfl
theorem c5t (n:Nat):gi [] [] n=[]:=rfl
theorem c5g (k:Blk) (r:List Blk) (n:Nat):gi [] (k::r) n=n::gi [] r (n+1000000):=rfl
theorem c4K (i:Nat) (ids:List Nat) (k:Blk) (r:List Blk) (n:Nat):gi (i::ids) (k::r) n=gi ids r n:=rfl
def cpw (fl:Bool) (new:Nat) (ids bor:List Nat) (r:V) (bs:List Blk) (ns:List Nat):Option (V×Upd):=some (GV (ids++ns) r,ol (ids++ns) (bs.map (kA (ids++ns)))++br (bor.isEmpty||(zp r&&bs.all (BM fl))) [] (jo bor))
theorem c2T (fl:Bool) (new:Nat) (ids bor:List Nat) (r:V) (bs:List Blk) (ns:List Nat):cpw fl new ids bor r bs ns=some (GV (ids++ns) r,ol (ids++ns) (bs.map (kA (ids++ns)))++br (bor.isEmpty||(zp r&&bs.all (BM fl))) [] (jo bor)):=rfl
theorem a7c (fl ro:Bool) (new:Nat) (ids bor:List Nat) (r:V) (bs:List Blk):O1 fl ro h new ids bor (some (r,bs))=
 roW ro h (br (Nat.ble ids.length bs.length&&(gi ids bs new).all (fun b=>(h b).isNone)) (cpw fl new ids bor r bs (gi ids bs new)) none):=by
 refine congrArg (roW ro h) ?_
 simp only [z6,cpw,Pa]
 generalize (gi ids bs new).all (fun b=>(h b).isNone)=c3
 generalize (bor.isEmpty||(zp r&&bs.all (BM fl)))=c4
 by_cases h1:ids.length<=bs.length
 ·rw [al h1];cases c3<;>cases c4<;>simp [h1,br]
 ·rw [ag h1];cases c3<;>cases c4<;>simp [h1,br]
theorem b0G (ids:List Nat) (vs:List V):GV ids (.tup vs)= .tup (vs.map (nK ids)):=rfl
theorem b1N (ids:List Nat) (vs:List V):GV ids (.agg vs)= .agg (vs.map (unV ids)):=rfl
theorem b1d (ids:List Nat) (v:Value):GV ids (.lit v)= .lit v:=rfl
theorem a9N (ids:List Nat) (b i o m:Nat):GV ids (.ptr b i o m)= .ptr (ids.getD b 0) i o m:=rfl
theorem b0n (ids:List Nat) (b s q:Nat):GV ids (.sl b s q)= .sl (ids.getD b 0) s q:=rfl
theorem a9F (ids:List Nat) (vs:List V):nK ids (.agg vs)= .agg (vs.map (unV ids)):=rfl
theorem b1A (ids:List Nat) (v:Value):nK ids (.lit v)= .lit v:=rfl
theorem a9W (ids:List Nat) (b i o m:Nat):nK ids (.ptr b i o m)= .ptr (ids.getD b 0) i o m:=rfl
theorem b0e (ids:List Nat) (b s q:Nat):nK ids (.sl b s q)= .sl (ids.getD b 0) s q:=rfl
theorem c01 (ids:List Nat) (v:Value):unV ids (.lit v)= .lit v:=rfl
theorem b34 (ids:List Nat) (f:FuncId) (cs:List V):nK ids (.fn f cs)= .fn f (cs.map (unV ids)):=rfl
theorem b9j (ids:List Nat) (b i o m:Nat):unV ids (.ptr b i o m)= .ptr (ids.getD b 0) i o m:=rfl
theorem b5S (ids:List Nat) (m:Nat) (r:List (List V)):kA ids ⟨m,false,r⟩=⟨m,false,r⟩:=rfl
theorem a9n (ids:List Nat) (m:Nat) (row:List V):kA ids ⟨m,true,[row]⟩=⟨m,true,[row.map (nK ids)]⟩:=rfl
theorem c1S (v:Value):zp (.lit v)=true:=rfl
theorem c3s (vs:List V):zp (.agg vs)=vs.all su:=rfl
theorem c0z (vs:List V):zp (.tup vs)=vs.all ON:=rfl
theorem c0N (b i o m:Nat):zp (.ptr b i o m)=true:=rfl
theorem c2Q (b s q:Nat):zp (.sl b s q)=true:=rfl
theorem b6M (v:Value):ON (.lit v)=true:=rfl
theorem b72 (vs:List V):ON (.agg vs)=vs.all su:=rfl
theorem b9t (v:Value):su (.lit v)=true:=rfl
theorem c2b (f:FuncId) (cs:List V):su (.fn f cs)=false:=rfl
theorem c03 (b i o m:Nat):su (.ptr b i o m)=true:=rfl
theorem b77 (b s q:Nat):su (.sl b s q)=true:=rfl
theorem c0Z (m:Nat) (r:List (List V)):BM false ⟨m,false,r⟩=false:=rfl
theorem c1X (fl:Bool) (m:Nat) (row:List V):BM fl ⟨m,true,[row]⟩=row.all su:=by simp [BM]
def b9J (raw:Bool) (m:Nat):Option (List V)->Option (List Blk)->Option (V×List Blk)
 |some vs',some bs=>br (Nat.ble m 1000) (some ((a1m vs').czR,br raw bs (bs.map Blk.cz))) none
 |_,_=>none
def a34 (keep raw:Bool) (m:Nat) (h:aZ):Option (List V)->Option (V×List Blk)
 |some vs=>b9J raw m (xf h m (br keep (mj raw h m vs) []) vs) (vz h m (br keep (mj raw h m vs) []) (List.range m++(br keep (mj raw h m vs) [])))
 |none=>none
theorem a89 (nt:Nat) (body:aP) (res:List Me) (keep raw:Bool) (m:Nat) (st:St) (x:bT) (hx:x= .ret\/x= .normal):a6v ⟨nt,body,res,keep,raw⟩ m x st=a34 keep raw m st.heap (mG st res):=by
 have hk: ∀vs:List V,(if keep=true then mj raw st.heap m vs else [])=br keep (mj raw st.heap m vs) []:=fun vs=>by cases keep<;>rfl
 have:a6v ⟨nt,body,res,keep,raw⟩ m x st=a6v ⟨nt,body,res,keep,raw⟩ m .ret st:=by rcases hx with rfl|rfl<;>rfl
 rw [this]
 simp only [a6v,kP,a34,b9J,a3Q,hk,Pa]
 cases mG st res with
 |none=>rfl
 |some vs=>
  dsimp only
  cases xf st.heap m (br keep (mj raw st.heap m vs) []) vs with
  |none=>rfl
  |some vs'=>
   cases vz st.heap m (br keep (mj raw st.heap m vs) []) (List.range m++(br keep (mj raw st.heap m vs) [])) with
   |none=>rfl
   |some bs=>by_cases h1:m<=1000<;>cases raw<;>simp [h1,br]
theorem b3p (nt:Nat) (body:aP) (res:List Me) (keep raw:Bool) (m:Nat) (st:St):a6v ⟨nt,body,res,keep,raw⟩ m .ret st=a34 keep raw m st.heap (mG st res):=a89 _ _ _ _ _ _ _ _ (.inl rfl)
theorem a3x (nt:Nat) (body:aP) (res:List Me) (keep raw:Bool) (m:Nat) (st:St):a6v ⟨nt,body,res,keep,raw⟩ m .normal st=a34 keep raw m st.heap (mG st res):=a89 _ _ _ _ _ _ _ _ (.inr rfl)
theorem b0L (keep raw:Bool) (m:Nat) (vs:List V):a34 keep raw m h (some vs)=b9J raw m (xf h m (br keep (mj raw h m vs) []) vs) (vz h m (br keep (mj raw h m vs) []) (List.range m++(br keep (mj raw h m vs) []))):=rfl
theorem b1K (raw:Bool) (m:Nat) (vs:List V) (bs:List Blk):b9J raw m (some vs) (some bs)=br (Nat.ble m 1000) (some ((a1m vs).czR,br raw bs (bs.map Blk.cz))) none:=rfl
def rs1:Option V->Option (List V)->Option (List V)
 |some v,some vs=>some (v::vs)
 |_,_=>none
theorem b4K (st:St):mG st []=some []:=rfl
theorem b0I (st:St) (r:Me) (rs:List Me):mG st (r::rs)=rs1 (Iw st r) (mG st rs):=by
 simp only [mG,rs1]
 cases Iw st r<;>cases mG st rs<;>rfl
theorem b2Y (v:V) (vs:List V):rs1 (some v) (some vs)=some (v::vs):=rfl
theorem b92 (st:St) (t:Nat):Iw st (.tmp t)=some (st.get t):=rfl
theorem b5a (st:St) (t:Nat) (g:Option Nat):Iw st (.cell t g)=yM g st.heap (st.get t):=rfl
def c67:Option V->Option (List V)->Option (List V)
 |some v,some vs=>some (v::vs)
 |_,_=>none
theorem a9O (m:Nat) (kp:List Nat):xf h m kp []=some []:=rfl
theorem a5u (m:Nat) (kp:List Nat) (v:V) (r:List V):xf h m kp (v::r)=rs1 (K9 h m kp v) (xf h m kp r):=by
 simp only [xf,rs1]
 cases K9 h m kp v<;>cases xf h m kp r<;>rfl
theorem b0t (m:Nat) (kp:List Nat):xb h m kp []=some []:=rfl
theorem R7 (m:Nat) (kp:List Nat) (v:V) (r:List V):xb h m kp (v::r)=rs1 (sH h m kp v) (xb h m kp r):=by
 simp only [xb,rs1]
 cases sH h m kp v<;>cases xb h m kp r<;>rfl
def fag:Option (List V)->Option V
 |some cs=>some (.agg cs)
 |none=>none
theorem b3R (m:Nat) (kp:List Nat) (cs:List V):K9 h m kp (.agg cs)=fag (xb h m kp cs):=by
 simp only [K9,fag]
 cases xb h m kp cs<;>rfl
theorem b6s (cs:List V):fag (some cs)=some (.agg cs):=rfl
theorem b3W (m:Nat) (kp:List Nat) (v:Value):K9 h m kp (.lit v)=some (.lit v):=rfl
theorem b6d (m:Nat) (kp:List Nat) (v:Value):sH h m kp (.lit v)=some (.lit v):=rfl
def b8f:Option (V×List Nat)->Option V
 |some (v,_)=>some v
 |none=>none
def fcO (h:aZ) (m:Nat) (kp:List Nat) (b s q:Nat):Option V:=br (Nat.blt b m) (some (.sl b s q)) (br (kp.contains b) (some (.sl (m+kV b kp) s q)) (b8f (rZ h (.sl b s q))))
theorem U5 (m:Nat) (kp:List Nat) (b s q:Nat):sH h m kp (.sl b s q)=fcO h m kp b s q:=by
 simp only [sH,fcO,MZ,b8f]
 by_cases h1:b<m
 ·simp [h1,br]
 ·by_cases h2:b∈kp
  ·simp [h1,h2,br]
  ·have:kp.contains b=false:=by simpa using h2
   simp only [h1,h2,this,if_false,decide_false,bf]
   cases rZ h (.sl b s q)<;>rfl
theorem b64 (m:Nat) (kp:List Nat) (b s q:Nat):K9 h m kp (.sl b s q)=fcO h m kp b s q:=U5 m kp b s q
theorem c3l (m:Nat) (kp:List Nat) (b s q:Nat):fcO h m kp b s q=br (Nat.blt b m) (some (.sl b s q)) (br (kp.contains b) (some (.sl (m+kV b kp) s q)) (b8f (rZ h (.sl b s q)))):=rfl
theorem b1M (v:V) (bs:List Nat):b8f (some (v,bs))=some v:=rfl
def fcP (m:Nat) (kp:List Nat) (b i o q:Nat):Option V:=br (Nat.blt b m) (some (.ptr b i o q)) (br (kp.contains b) (some (.ptr (m+kV b kp) i o q)) none)
theorem QZ (m:Nat) (kp:List Nat) (b i o q:Nat):sH h m kp (.ptr b i o q)=fcP m kp b i o q:=by
 simp only [sH,fcP,MZ]
 by_cases h1:b<m
 ·simp [h1,br]
 ·by_cases h2:b∈kp
  ·simp [h1,h2,br]
  ·have:kp.contains b=false:=by simpa using h2
   simp [h1,h2,this,br]
theorem b3t (m:Nat) (kp:List Nat) (b i o q:Nat):K9 h m kp (.ptr b i o q)=fcP m kp b i o q:=QZ (h:=h) m kp b i o q
theorem c2V (m:Nat) (kp:List Nat) (b i o q:Nat):fcP m kp b i o q=br (Nat.blt b m) (some (.ptr b i o q)) (br (kp.contains b) (some (.ptr (m+kV b kp) i o q)) none):=rfl
def fb2:Option Blk->Option (List Blk)->Option (List Blk)
 |some k,some r=>some (k::r)
 |_,_=>none
def fb1 (h:aZ) (m:Nat) (kp r:List Nat):Option Blk->Option (List Blk)
 |some k=>fb2 (Tk h m kp k) (vz h m kp r)
 |none=>none
theorem b0z (m:Nat) (kp:List Nat):vz h m kp []=some []:=rfl
theorem a7j (m:Nat) (kp:List Nat) (b:Nat) (r:List Nat):vz h m kp (b::r)=fb1 h m kp r (h b):=by
 simp only [vz,fb1,fb2]
 cases h b with
 |none=>rfl
 |some k=>dsimp only;cases Tk h m kp k<;>cases vz h m kp r<;>rfl
theorem b2G (m:Nat) (kp r:List Nat) (k:Blk):fb1 h m kp r (some k)=fb2 (Tk h m kp k) (vz h m kp r):=rfl
theorem b6u (k:Blk) (r:List Blk):fb2 (some k) (some r)=some (k::r):=rfl
theorem b7D (m:Nat) (kp:List Nat) (q:Nat) (r:List (List V)):Tk h m kp ⟨q,false,r⟩=some ⟨q,false,r⟩:=rfl
def fbO (q:Nat):Option (List V)->Option Blk
 |some row=>some ⟨q,true,[row]⟩
 |none=>none
theorem a9z (m:Nat) (kp:List Nat):Aj h m kp []=some []:=rfl
theorem yT (m:Nat) (kp:List Nat) (v:V) (r:List V):Aj h m kp (v::r)=rs1 (Nd h m kp v) (Aj h m kp r):=by
 simp only [Aj,rs1]
 cases Nd h m kp v<;>cases Aj h m kp r<;>rfl
def fnR (f:FuncId):Option (List V)->Option V
 |some cs=>some (.fn f cs)
 |none=>none
theorem b2l (f:FuncId) (cs:List V):fnR f (some cs)=some (.fn f cs):=rfl
theorem b4E (m:Nat) (kp:List Nat) (f:FuncId):Nd h m kp (.fn f [])=some (.fn f []):=rfl
theorem b7R (m:Nat) (kp:List Nat) (f:FuncId) (c:V) (cs:List V):Nd h m kp (.fn f (c::cs))=fnR f (xb h m kp (c::cs)):=by
 simp only [Nd,fnR]
 cases xb h m kp (c::cs)<;>rfl
theorem b56 (m:Nat) (kp:List Nat) (v:Value):Nd h m kp (.lit v)=some (.lit v):=rfl
theorem b4o (m:Nat) (kp:List Nat) (b s q:Nat):Nd h m kp (.sl b s q)=fcO h m kp b s q:=U5 m kp b s q
theorem b5m (m:Nat) (kp:List Nat) (b i o q:Nat):Nd h m kp (.ptr b i o q)=fcP m kp b i o q:=QZ (h:=h) m kp b i o q
theorem b8J (m:Nat) (kp:List Nat) (q:Nat) (row:List V):Tk h m kp ⟨q,true,[row]⟩=fbO q (Aj h m kp row):=by
 simp only [Tk,uF,fbO]
 cases Aj h m kp row<;>rfl
theorem b4u (q:Nat) (row:List V):fbO q (some row)=some ⟨q,true,[row]⟩:=rfl
theorem b5U (t u:Nat) (v:V) (r:List (Nat×V)) (m:List (Nat×Blk)):St.get ⟨(u,v)::r,m⟩ t=if u=t then v else St.get ⟨r,m⟩ t:=by
 simp only [St.get,dO]
 split<;>rfl
theorem b98 (t:Nat) (m:List (Nat×Blk)):St.get ⟨[],m⟩ t= .undef:=rfl
theorem a9Z (b c:Nat) (k:Blk) (r:List (Nat×Blk)) (x:List (Nat×V)):St.heap ⟨x,(c,k)::r⟩ b=if c=b then some k else St.heap ⟨x,r⟩ b:=rfl
theorem b3j (b:Nat) (x:List (Nat×V)):St.heap ⟨x,[]⟩ b=none:=rfl
theorem b4T (x:List (Nat×V)) (m:List (Nat×Blk)) (d:Nat) (v:V):St.put ⟨x,m⟩ (some d) v=⟨(d,v)::x,m⟩:=rfl
theorem b4e (st:St) (v:V):st.put none v=st:=rfl
theorem c3y (x:List (Nat×V)) (m:List (Nat×Blk)) (u:Upd):St.upd ⟨x,m⟩ u=⟨x,a3X m u⟩:=rfl
theorem b79 (st:St):st.upd []=st:=rfl
theorem b54 (m:List (Nat×Blk)):a3X m []=m:=rfl
theorem b0Y (m:List (Nat×Blk)) (b:Nat) (k:Blk) (r:Upd):a3X m ((b,k)::r)=a3X (jf b k m) r:=rfl
theorem b37 {β:Type} (k:Nat) (v:β):jf k v []=[(k,v)]:=rfl
theorem b26 {β:Type} (k j:Nat) (v u:β) (r:List (Nat×β)):jf k v ((j,u)::r)=if j=k then (j,v)::r else (j,u)::jf k v r:=rfl
theorem c5F (st:St) (t:Nat):st.ev (.t t)=st.get t:=rfl
theorem c5W (st:St) (v:Value):st.ev (.c v)= .lit v:=rfl
theorem c5C (st:St) (f:FuncId):st.ev (.f f)= .fn f []:=rfl
theorem b8b (live:List Nat) (x:List (Nat×V)) (m:List (Nat×Blk)):trim live ⟨x,m⟩=⟨live.map fun t=>(t,St.get ⟨x,m⟩ t),m⟩:=rfl
theorem a7e {β:Type} (n:Nat):rC n ([]:List β)=[]:=rfl
theorem a1R {β:Type} (n:Nat) (x:β) (r:List β):rC n (x::r)=(n,x)::rC (n+1) r:=rfl
theorem start_eq (a:List V) (b:List Blk):start a b=⟨rC 0 a,rC 0 b⟩:=rfl
theorem a2a:iE ev []=[]:=rfl
theorem Z1 (a b:Nat) (x:Opd) (r:List (Nat×Nat×Opd)):iE ev ((a,b,x)::r)=(a,b,ev x)::iE ev r:=rfl
theorem b1b (cs:List V):OH cs []=some cs:=rfl
theorem a63 (cs:List V) (off size:Nat) (v:V) (r:List (Nat×Nat×V)):OH cs ((off,size,v)::r)=br (Nat.beq v.cells.length size&&Nat.ble (off+size) cs.length&&v.cells.all V.cell) (OH (cs.take off++(v.cells++cs.drop (off+size))) r) none:=rfl
theorem b0W (m:Nat) (r:List (List V)):LS m r []=some r:=rfl
theorem a74 (m:Nat) (rows:List (List V)) (i:Nat) (v:V) (r:List (Nat×V)):LS m rows ((i,v)::r)=br (Nat.beq v.cells.length m&&(Nat.blt i rows.length&&v.cells.all V.cell)) (LS m (rows.set i v.cells) r) none:=rfl
theorem b1C (cs:List V):(V.agg cs).cells=cs:=rfl
theorem Xg (v:Value):(V.lit v).cells=[.lit v]:=rfl
theorem a9y (b s q:Nat):(V.sl b s q).cells=[.sl b s q]:=rfl
theorem b1u (b i o m:Nat):(V.ptr b i o m).cells=[.ptr b i o m]:=rfl
theorem b6j (f:FuncId) (cs:List V):(V.fn f cs).cells=[.fn f cs]:=rfl
theorem a36 (k:IntKind) (a:Int):(V.lit (.int k a)).cell=true:=rfl
theorem b0B (a:Bool):(V.lit (.bool a)).cell=true:=rfl
theorem b39 (a:ByteArray):(V.lit (.string a)).cell=true:=rfl
theorem b2y (a:Option Addr) (n m:Nat):(V.lit (.slice a n m)).cell=true:=rfl
theorem b4L (b s q:Nat):(V.sl b s q).cell=true:=rfl
theorem b4N (b i o m:Nat):(V.ptr b i o m).cell=true:=rfl
theorem b9k (f:FuncId) (cs:List V):(V.fn f cs).cell=true:=rfl
theorem b9c (k:IntKind) (a:Int):ck (.int k a)=true:=rfl
theorem b5i (a:Bool):ck (.bool a)=true:=rfl
theorem c00 (a:ByteArray):ck (.string a)=true:=rfl
theorem b9x (a:Option Addr) (n m:Nat):ck (.slice a n m)=true:=rfl
theorem b1F:jo []=[]:=rfl
theorem a6l (b:Nat) (r:List Nat):jo (b::r)=(b,nG)::jo r:=rfl
theorem b9Z (ids:List Nat):ol ids []=[]:=by cases ids<;>rfl
theorem b6m (i:Nat) (ids:List Nat) (k:Blk) (r:List Blk):ol (i::ids) (k::r)=(i,k)::ol ids r:=rfl
theorem b2H (b x:Nat) (r:List Nat):kV b (x::r)=if x=b then 0 else kV b r+1:=rfl
theorem b0J (ids:List Nat) (b:Nat):gx ids b=br (ids.contains b) ids (ids++[b]):=by
 unfold gx
 by_cases h:b∈ids<;>simp [h,br]
theorem b3D (v:V):a1m [v]=v:=rfl
theorem b4w:a1m []= .tup []:=rfl
theorem b6e (a b:V) (r:List V):a1m (a::b::r)= .tup (a::b::r):=rfl
theorem a62 (o:List Nat) (a:List V):vv o a=br (o.contains 1000) a (a.map V.czA):=by
 unfold vv;cases o.contains 1000<;>rfl
theorem a5B (o:List Nat) (a:List Blk):vd o a=br (o.contains 1000) a (a.map Blk.cz):=by
 unfold vd;cases o.contains 1000<;>rfl
def a6k (st:St) (bs:List Nat):St:={ e:=SG (fzA st.heap bs) st.e,m:=fzM st.heap bs st.m }
theorem b58 (st:St) (bs:List Nat):dg st (.close bs)=br (bs.all (fun b=>Nat.ble 1000 b)) (some (a6k st bs)) none:=by
 simp only [dg,a6k,Pa]
 cases bs.all (fun b=>decide (1000<=b))<;>rfl
theorem b0Z (x:List (Nat×V)) (m:List (Nat×Blk)) (bs:List Nat):a6k ⟨x,m⟩ bs=⟨SG (fzA (St.heap ⟨x,m⟩) bs) x,fzM (St.heap ⟨x,m⟩) bs m⟩:=rfl
theorem b2k (g:V->V):SG g []=[]:=rfl
theorem b1X (g:V->V) (t:Nat) (v:V) (r:List (Nat×V)):SG g ((t,v)::r)=(t,g v)::SG g r:=rfl
variable {bs:List Nat}
theorem c2e (v:Value):fzA h bs (.lit v)= .lit v:=rfl
theorem b6t:fzA h bs .undef= .undef:=rfl
def fzO:Option (V×List Nat)->V
 |some (v,_)=>v.cz
 |none=> .undef
theorem b44 (b s q:Nat):fzA h bs (.sl b s q)=br (bs.contains b) (fzO (rZ h (.sl b s q))) (.sl b s q):=by
 simp only [fzA,fzC,fzO]
 by_cases hb:b∈bs
 ·simp [hb,br];cases rZ h (.sl b s q)<;>rfl
 ·simp [hb,br]
theorem b3k (b i o m:Nat):fzA h bs (.ptr b i o m)=br (bs.contains b) .undef (.ptr b i o m):=by
 simp only [fzA,fzC]
 by_cases hb:b∈bs<;>simp [hb,br]
theorem b3H (v:V) (b:List Nat):fzO (some (v,b))=v.cz:=rfl
theorem c0t (cs:List V):fzA h bs (.agg cs)=br ((cs.map (fzC h bs)).all V.cell) (.agg (cs.map (fzC h bs))) .undef:=by
 simp only [fzA]
 cases (cs.map (fzC h bs)).all V.cell<;>rfl
theorem c0r (f:FuncId) (cs:List V):fzA h bs (.fn f cs)=br (cs.all okC&& !(cs.flatMap Bb).any (fun b=>bs.contains b)) (.fn f cs) .undef:=by
 simp only [fzA,fzC]
 have:(fun b=>decide (b∈bs))=fun b=>bs.contains b:=by funext b;simp [px]
 rw [this]
 cases (cs.all okC&& !(cs.flatMap Bb).any (fun b=>bs.contains b))<;>rfl
theorem b8B (v:Value):fzC h bs (.lit v)= .lit v:=rfl
theorem c3n (f:FuncId) (cs:List V):fzC h bs (.fn f cs)=br (cs.all okC&& !(cs.flatMap Bb).any (fun b=>bs.contains b)) (.fn f cs) .undef:=c0r (h:=h) f cs
theorem b9p (b i o m:Nat):okC (.ptr b i o m)=true:=rfl
theorem b9L (b s q:Nat):fzC h bs (.sl b s q)=br (bs.contains b) (fzO (rZ h (.sl b s q))) (.sl b s q):=b44 b s q
theorem b75 (b i o m:Nat):fzC h bs (.ptr b i o m)=br (bs.contains b) .undef (.ptr b i o m):=b3k (h:=h) b i o m
theorem b9H:fzM h bs []=[]:=rfl
def fzK (h:aZ) (bs:List Nat) (k:Blk):Blk:=if k.op then (if (k.rows.map (·.map (fzC h bs))).all (·.all V.cell) then { k with rows:=k.rows.map (·.map (fzC h bs)) } else nG) else k
theorem b49 (b:Nat) (k:Blk) (r:List (Nat×Blk)):fzM h bs ((b,k)::r)=br (bs.contains b) (fzM h bs r) ((b,fzK h bs k)::fzM h bs r):=by
 simp only [fzM,fzK]
 by_cases hb:b∈bs<;>simp [hb,br]
theorem c1f (m:Nat) (r:List (List V)):fzK h bs ⟨m,false,r⟩=⟨m,false,r⟩:=rfl
theorem c2Z (m:Nat) (row:List V):fzK h bs ⟨m,true,[row]⟩=br ((row.map (fzC h bs)).all V.cell) ⟨m,true,[row.map (fzC h bs)]⟩ nG:=by
 simp only [fzK,aS,ee,cr,List.all_nil,gt,if_true]
 cases (row.map (fzC h bs)).all V.cell<;>rfl
section
variable {R:Type} {T:Tab} {ow:en} {k:bT->St->Option R} {d:Option Nat} {n:Nat} {ss:List cm} {live:List Nat} {K:List Fr} {st:St} {base i:Nat} {deps:List (List Nat)} {rs:List Rec} {fp:List Nat} {r:R}
theorem zB {fl ro:Bool} {h:aZ} {new:Nat} {ids bor:List Nat} {x:Option (V×List Blk)} {p:V×List Blk} (hx:x=some p) (hr:aft T ow k d n ss live K st (O1 fl ro h new ids bor (some p))=some r):aft T ow k d n ss live K st (O1 fl ro h new ids bor x)=some r:=by
 rw [hx];exact hr
theorem oZ {fl ro:Bool} {h:aZ} {new:Nat} {ids bor:List Nat} {x:Option (V×List Blk)} {p:V×List Blk} (hx:x=some p) (hr:Qo T ow k d base i ss deps live rs K st fp (O1 fl ro h new ids bor (some p))=some r):Qo T ow k d base i ss deps live rs K st fp (O1 fl ro h new ids bor x)=some r:=by
 rw [hx];exact hr
theorem c5i (b:Int):nn b=decide (0<=b):=rfl
theorem c5a (b:Int):nz b=decide (b≠0):=rfl
theorem c1H (i:Int) (n:Nat):inb i n=(decide (0<=i)&&decide (i.toNat<n)):=rfl
end
end
section
variable {ow:en} {ev:Opd->V} {h:aZ} {α:Type} {e:En α} {l:List α}
theorem c54 (x:Opd):m4 ow (.mv x) ev h=[]:=rfl
theorem b6I (c a b:Opd):m4 ow (.pick c a b) ev h=((AOp.pick c a b).opds.map ev).flatMap n7:=rfl
theorem b8j (c a b:Opd):(AOp.pick c a b).opds=[c,a,b]:=rfl
theorem b3J (z:List Value):m4 ow (.alloc z) ev h=((AOp.alloc z).opds.map ev).flatMap n7:=rfl
theorem b6y (z:List Value):(AOp.alloc z).opds=[]:=rfl
theorem b6o (z:List Value) (ps:List (Nat×Nat×Opd)):m4 ow (.build z ps) ev h=((AOp.build z ps).opds.map ev).flatMap n7:=rfl
theorem b4R (z:List Value) (ps:List (Nat×Nat×Opd)):(AOp.build z ps).opds=ps.map (·.2.2):=rfl
theorem W1 (m:Nat) (z:List Value) (l:Nat) (ps:List (Nat×Opd)):m4 ow (.buildSlice m z l ps) ev h=((AOp.buildSlice m z l ps).opds.map ev).flatMap n7:=rfl
theorem Wt (m:Nat) (z:List Value) (l:Nat) (ps:List (Nat×Opd)):(AOp.buildSlice m z l ps).opds=ps.map (·.2):=rfl
theorem b95 (g:Option Nat) (x:Opd):m4 ow (.load g x) ev h=((AOp.load g x).opds.map ev).flatMap n7:=rfl
theorem b7P (g:Option Nat) (x:Opd):(AOp.load g x).opds=[x]:=rfl
theorem b2e (m:Nat) (x y:Opd):m4 ow (.store m x y) ev h=((AOp.store m x y).opds.map ev).flatMap n7:=rfl
theorem b3V (m:Nat) (x y:Opd):(AOp.store m x y).opds=[x,y]:=rfl
theorem a2D (x:Opd):m4 ow (.nilCheck x) ev h=((AOp.nilCheck x).opds.map ev).flatMap n7:=rfl
theorem a1I (x:Opd):(AOp.nilCheck x).opds=[x]:=rfl
theorem c3q (op:BinOp) (x y:Opd):m4 ow (.bin op x y) ev h=((AOp.bin op x y).opds.map ev).flatMap n7:=rfl
theorem c2J (op:BinOp) (x y:Opd):(AOp.bin op x y).opds=[x,y]:=rfl
theorem b5W (b:Bool) (ks:List Bool) (x y:Opd):m4 ow (.eqAgg b ks x y) ev h=((AOp.eqAgg b ks x y).opds.map ev).flatMap n7:=rfl
theorem b51 (b:Bool) (ks:List Bool) (x y:Opd):(AOp.eqAgg b ks x y).opds=[x,y]:=rfl
theorem c52 (op:UnOp) (x:Opd):m4 ow (.un op x) ev h=((AOp.un op x).opds.map ev).flatMap n7:=rfl
theorem c4X (op:UnOp) (x:Opd):(AOp.un op x).opds=[x]:=rfl
theorem b5H (k:IntKind) (x:Opd):m4 ow (.toInt k x) ev h=((AOp.toInt k x).opds.map ev).flatMap n7:=rfl
theorem b41 (k:IntKind) (x:Opd):(AOp.toInt k x).opds=[x]:=rfl
theorem a6X (x:Opd):m4 ow (.toBytes x) ev h=((AOp.toBytes x).opds.map ev).flatMap n7:=rfl
theorem a73 (x:Opd):(AOp.toBytes x).opds=[x]:=rfl
theorem b2z (x:Opd):m4 ow (.toStr x) ev h=((AOp.toStr x).opds.map ev).flatMap n7:=rfl
theorem b2v (x:Opd):(AOp.toStr x).opds=[x]:=rfl
theorem a4l (f:FuncId) (cs:List Opd):m4 ow (.makeFunc f cs) ev h=[]:=rfl
theorem a59 (x:Opd) (lo hi:Option Opd):m4 ow (.sliceStr x lo hi) ev h=((AOp.sliceStr x lo hi).opds.map ev).flatMap n7:=rfl
theorem a4V (x:Opd) (lo hi:Option Opd):(AOp.sliceStr x lo hi).opds=x::(Mq lo++Mq hi):=rfl
theorem b4r (m:Nat) (x:Opd) (lo hi mx:Option Opd):m4 ow (.slice m x lo hi mx) ev h=((AOp.slice m x lo hi mx).opds.map ev).flatMap n7:=rfl
theorem b5P (m:Nat) (x:Opd) (lo hi mx:Option Opd):(AOp.slice m x lo hi mx).opds=x::(Mq lo++(Mq hi++Mq mx)):=rfl
theorem c2F (m:Nat) (x:Opd):m4 ow (.off m x) ev h=[]:=rfl
theorem c3L (m:Nat) (x y:Opd):m4 ow (.idx m x y) ev h=((AOp.idx m x y).opds.map ev).flatMap n7:=rfl
theorem c0y (m:Nat) (x y:Opd):(AOp.idx m x y).opds=[x,y]:=rfl
theorem b1m (m q:Nat) (x y:Opd):m4 ow (.idxArr m q x y) ev h=((AOp.idxArr m q x y).opds.map ev).flatMap n7:=rfl
theorem b0s (m q:Nat) (x y:Opd):(AOp.idxArr m q x y).opds=[x,y]:=rfl
theorem b4f (x y:Opd):m4 ow (.ixStr x y) ev h=((AOp.ixStr x y).opds.map ev).flatMap n7:=rfl
theorem b3c (x y:Opd):(AOp.ixStr x y).opds=[x,y]:=rfl
theorem c2c (x:Opd) (i:Nat):m4 ow (.ext x i) ev h=[]:=rfl
theorem c2B (b:Bool) (x:Opd):m4 ow (.len b x) ev h=[]:=rfl
theorem a9x (m b:Nat) (z:List Value) (x y:Opd):m4 ow (.append m b z x y) ev h=((AOp.append m b z x y).opds.map ev).flatMap n7:=rfl
theorem b1t (m b:Nat) (z:List Value) (x y:Opd):(AOp.append m b z x y).opds=[x,y]:=rfl
theorem a49 (x:Opd):m4 ow (.bytesOwn x) ev h=((AOp.bytesOwn x).opds.map ev).flatMap n7:=rfl
theorem a4b (x:Opd):(AOp.bytesOwn x).opds=[x]:=rfl
theorem c3O (x:Opd):Mq (some x)=[x]:=rfl
theorem c1L:Mq none=[]:=rfl
def fpC:Option (List V×List Blk×List Nat×List Nat)->List Nat
 |some (_,_,ids,bor)=>ids++bor
 |none=>[]
theorem b67 (a:List V) (b:List Blk) (ids bor:List Nat):fpC (some (a,b,ids,bor))=ids++bor:=rfl
theorem b8a (f:FuncId) (args:List Opd):m4 ow (.call f args) ev h=fpC (ft ow h f (args.map ev)):=by
 show NB ow h f (args.map ev)=_
 unfold NB fpC
 cases ft ow h f (args.map ev)<;>rfl
def fpD (ow:en) (h:aZ) (args:List V):V->List Nat
 | .fn k caps=>fpC (ft ow h k (args++caps))
 |_=>[]
theorem c0M (f:Opd) (args:List Opd):m4 ow (.dyn f args) ev h=fpD ow h (args.map ev) (ev f):=by
 show (match ev f with
  | .fn k caps=>NB ow h k (args.map ev++caps)
  |_=>[])=_
 cases ev f<;>first|rfl| (simp only [fpD,NB,fpC];cases ft ow h _ _<;>rfl)
theorem c1w (args:List V) (k:FuncId) (caps:List V):fpD ow h args (.fn k caps)=fpC (ft ow h k (args++caps)):=rfl
theorem b6H (cs:List V):n7 (.agg cs)=cs.flatMap Bb:=rfl
theorem b7a (v:Value):n7 (.lit v)=[]:=rfl
theorem b2K (r:List V) (o:Nat):n7 (.iptr r o)=[]:=rfl
theorem b9n (b i o m:Nat):n7 (.ptr b i o m)=[b]:=rfl
theorem b8G (b s q:Nat):n7 (.sl b s q)=[b]:=rfl
theorem b7g (v:Value):Bb (.lit v)=[]:=rfl
theorem b8V (b i o m:Nat):Bb (.ptr b i o m)=[b]:=rfl
theorem b8A (b s q:Nat):Bb (.sl b s q)=[b]:=rfl
theorem a3S (fp:List Nat) (b:Nat):sM h fp b=br (fp.contains b) (h b) none:=by
 unfold sM
 by_cases hb:b∈fp<;>simp [hb,br]
theorem b9F (rs:List Rec) (i:Nat) (fp wr:List Nat):b5l rs i fp wr=br (fp.isEmpty&&wr.isEmpty) rs (rs++[⟨i,fp,wr⟩]):=by
 have h:Rec.loud ⟨i,fp,wr⟩= !(fp.isEmpty&&wr.isEmpty):=rfl
 unfold b5l
 cases h1:Rec.loud ⟨i,fp,wr⟩ with
 |true=>
  rw [h1] at h
  have h2:(fp.isEmpty&&wr.isEmpty)=false:=by
   cases hx:fp.isEmpty&&wr.isEmpty with
   |false=>rfl
   |true=>rw [hx] at h;cases h
  rw [h2,bf,List.filter_cons_of_pos h1];rfl
 |false=>
  rw [h1] at h
  have h2:(fp.isEmpty&&wr.isEmpty)=true:=by
   cases hx:fp.isEmpty&&wr.isEmpty with
   |true=>rfl
   |false=>rw [hx] at h;cases h
  rw [h2,cO,List.filter_cons_of_neg (by rw [h1];decide)];simp
theorem a9h (deps:List (List Nat)):qM deps []=true:=rfl
theorem a6b (deps:List (List Nat)) (p:Rec) (r:List Rec):qM deps (p::r)=(GE deps p r&&qM deps r):=rfl
theorem b7U (deps:List (List Nat)) (p:Rec):GE deps p []=true:=rfl
theorem b2q (deps:List (List Nat)) (i j:Nat) (f g w u:List Nat) (r:List Rec):GE deps ⟨i,f,w⟩ (⟨j,g,u⟩::r)=((w.isEmpty&&u.isEmpty||(deps.getD j []).contains i|| !(w.any (fun b=>decide (b∈g)||decide (b∈u))||u.any (fun b=>decide (b∈f))))&&GE deps ⟨i,f,w⟩ r):=rfl
theorem a5x {β:Type} (a d:β) (r:List β):(a::r).getD 0 d=a:=rfl
theorem a6H {β:Type} (a d:β) (n:Nat) (r:List β):(a::r).getD (n+1) d=r.getD n d:=rfl
theorem b8P (m:Nat) (cs:List V) (n:Nat):c0D m cs h n=br (Nat.beq cs.length m&&cs.all V.cell) (frO (h n) n ⟨m,true,[cs]⟩ (.ptr n 0 0 1)) none:=rfl
theorem ak (x:Int) (h1: -9223372036854775808<=x) (h2:x<9223372036854775808):IntKind.wrap .i64 x=x:=by
 simp [IntKind.wrap,IntKind.bits,IntKind.signed];omega
theorem eU (x:Int) (h1:0<=x) (h2:x<18446744073709551616):IntKind.wrap .u64 x=x:=by
 simp [IntKind.wrap,IntKind.bits,IntKind.signed];omega
theorem a93 (n:Nat):(OfNat.ofNat n:Int)=(n:Int):=rfl
theorem b4a (n:Nat) (h:Nat.ble n 9223372036854775807=true):IntKind.wrap .i64 (no_index (OfNat.ofNat n:Int))=OfNat.ofNat n:=by
 have h1:=dl h
 rw [a93];exact ak _ (by omega) (by omega)
theorem c0v (a b:Nat):(a==b)=decide (a=b):=by
 by_cases h:a=b
 ·subst h;simp
 ·rw [ag h];simpa using h
theorem c3F:List.range 0=[]:=rfl
theorem a5Z (m:Nat) (vs:List V):mj true h m vs=EP m [] ((List.range m).flatMap fun b=>b3C (h b)):=rfl
theorem a9R (m:Nat) (vs:List V):mj false h m vs=EP m [] (vs.flatMap n7):=rfl
theorem b8l (m:Nat) (row:List V):b3C (some ⟨m,true,[row]⟩)=row.flatMap n7:=by simp [b3C]
theorem b7Y (m:Nat) (r:List (List V)):b3C (some ⟨m,false,r⟩)=[]:=rfl
theorem b0S (m:Nat) (acc:List Nat):EP m acc []=acc:=rfl
theorem a7w (m b:Nat) (acc r:List Nat):EP m acc (b::r)=EP m (br (Nat.ble m b) (gx acc b) acc) r:=by
 simp only [EP,Pa]
 by_cases h:m<=b<;>simp [h,br]
theorem b0P (n:Nat):Int.toNat (no_index (OfNat.ofNat n:Int))=OfNat.ofNat n:=rfl
end
end Go.AI
