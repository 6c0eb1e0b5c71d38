/- Part. -/
import Derived.Test.YtdnkignjanfikaaGreatAiTyp2
set_option linter.unusedVariables false
set_option linter.unusedSimpArgs false
namespace Go.AI
section
variable {C:ce} {ow:FuncId->List Nat} {ev:Opd->V} {h:b8} {n:Nat} {α:Type} {e:En α} {l l2:List α}
def snO (k:Option Blk) (b s q:Nat):Option (V×List Nat):=match k with
 |some k=>if k.op=false/\0<k.esz/\s+q=k.rows.length then some (.imm k.esz (k.rows.drop s),[b]) else none
 |none=>none
theorem b2Z (b s q:Nat):pi h (.sl b s q)=snO (h b) b s q:=rfl
theorem c2F (m b q:Nat) (h0:Nat.blt 0 m=true) (a:l.length=q):snO (some ⟨m,false,rws e l⟩) b 0 q=some (.imm m (rws e l),[b]):=by
 rw [EU,aC] at h0
 simp [snO,rws,a,h0]
theorem b6m (k:IntKind) (a:Int):pi h (.lit (.int k a))=some (.lit (.int k a),[]):=rfl
theorem a9S (a:Bool):pi h (.lit (.bool a))=some (.lit (.bool a),[]):=rfl
theorem b4X (a:List UInt8):pi h (S a)=some (S a,[]):=rfl
theorem b1y:pi h (.lit (.slice none 0 0))=some (.lit (.slice none 0 0),[]):=rfl
theorem b2F (m:Nat) (r:List (List V)):pi h (.imm m r)=some (.imm m r,[]):=rfl
def snC:Option (V×List Nat)->Option (List V×List Nat)->Option (List V×List Nat)
 |some (a,bs),some (r,bs')=>some (a.cz::r,bs++bs')
 |_,_=>none
theorem b0d:nv h []=some ([],[]):=rfl
theorem a6e (v:V) (r:List V):nv h (v::r)=snC (pi h v) (nv h r):=by
 simp only [nv,snC]
 cases pi h v<;>cases nv h r<;>rfl
theorem b6J (a:V) (bs:List Nat) (r:List V) (bs':List Nat):snC (some (a,bs)) (some (r,bs'))=some (a.cz::r,bs++bs'):=rfl
theorem c5d (k:IntKind) (a:Int):(V.lit (.int k a)).cz= .lit (.int k a):=rfl
theorem b8R (a:Bool):(V.lit (.bool a)).cz= .lit (.bool a):=rfl
theorem c5c (a:List UInt8):(S a).cz=S a:=rfl
theorem c5o (a:Array Value):(V.lit (.tuple a)).cz= .lit (.tuple a):=rfl
theorem c66:(V.lit (.slice none 0 0)).cz= .imm 1 []:=rfl
theorem c6q (m:Nat):(V.imm m []).cz= .imm 1 []:=rfl
theorem c4D (b i o m:Nat):(V.ptr b i o m).cz= .ptr b i o m:=rfl
theorem c5s (b s q:Nat):(V.sl b s q).cz= .sl b s q:=rfl
theorem b8b (r:List V) (o:Nat):(V.iptr r o).cz= .iptr r o:=rfl
theorem c7w (f:FuncId) (cs:List V):(V.fn f cs).cz= .fn f cs:=rfl
theorem b4G:V.undef.cz= .undef:=rfl
theorem b80 (cs:List V):(V.agg cs).czA= .agg (cs.map V.cz):=rfl
theorem b8l (k:IntKind) (a:Int):(V.lit (.int k a)).czA= .lit (.int k a):=rfl
theorem b6Q (a:Bool):(V.lit (.bool a)).czA= .lit (.bool a):=rfl
theorem c1c (a:List UInt8):(S a).czA=S a:=rfl
theorem b92:(V.lit (.slice none 0 0)).czA= .imm 1 []:=rfl
theorem c0B (m:Nat) (r:List (List V)):(V.imm m r).czA=(V.imm m r).cz:=rfl
theorem c0R (b i o m:Nat):(V.ptr b i o m).czA= .ptr b i o m:=rfl
theorem c0F (b s q:Nat):(V.sl b s q).czA= .sl b s q:=rfl
theorem b4o (r:List V) (o:Nat):(V.iptr r o).czA= .iptr r o:=rfl
theorem c3j (f:FuncId) (cs:List V):(V.fn f cs).czA= .fn f cs:=rfl
theorem b0U:V.undef.czA= .undef:=rfl
theorem b7s (cs:List V):(V.tup cs).czR= .tup (cs.map V.czA):=rfl
theorem b7K (cs:List V):(V.agg cs).czR= .agg (cs.map V.cz):=rfl
theorem b7i (k:IntKind) (a:Int):(V.lit (.int k a)).czR= .lit (.int k a):=rfl
theorem b2q (a:Bool):(V.lit (.bool a)).czR= .lit (.bool a):=rfl
theorem c0O (a:List UInt8):(S a).czR=S a:=rfl
theorem c08:(V.lit (.slice none 0 0)).czR= .imm 1 []:=rfl
theorem b8h (m:Nat) (r:List (List V)):(V.imm m r).czR=(V.imm m r).cz:=rfl
theorem b9t (b i o m:Nat):(V.ptr b i o m).czR= .ptr b i o m:=rfl
theorem c0W (b s q:Nat):(V.sl b s q).czR= .sl b s q:=rfl
theorem b3j (r:List V) (o:Nat):(V.iptr r o).czR= .iptr r o:=rfl
theorem c43 (f:FuncId) (cs:List V):(V.fn f cs).czR= .fn f cs:=rfl
theorem b6O (m:Nat) (row:List V):Blk.cz ⟨m,true,[row]⟩=⟨m,true,[row.map V.cz]⟩:=rfl
theorem b3a (m:Nat) (r:List (List V)):Blk.cz ⟨m,false,r⟩=⟨m,false,r⟩:=rfl
theorem c5z (k:IntKind) (a:Int):zc (.int k a)= .lit (.int k a):=rfl
theorem c1d (a:Bool):zc (.bool a)= .lit (.bool a):=rfl
theorem c5J (a:List UInt8):zc (.string ⟨⟨a⟩⟩)=S a:=rfl
theorem c4t:zc (.slice none 0 0)= .imm 1 []:=rfl
def stO (k:Option Blk) (b size i o m:Nat) (x:V) (h:b8):Option (V×Upd):=match k with
 |some k=>if k.rows.length=m then (match k.rows[i]? with
  |some row=>
   if k.op then
    (if x.cells.length=size/\o+size<=row.length/\x.cells.all V.cell then
     some (.undef,[(b,{ k with rows:=k.rows.set i (row.take o++(x.cells++row.drop (o+size))) })]) else none)
   else match nv h x.cells with
    |some (cs,bs)=>if cs.length=size/\o+size<=row.length/\ ¬b∈bs then
     some (.undef,iZ bs++[(b,{ k with rows:=k.rows.set i (row.take o++(cs++row.drop (o+size))) })]) else none
    |none=>none
  |none=>none) else none
 |none=>none
def a3W (size:Nat) (a x:V) (h:b8):Option (V×Upd):=match a with
 | .ptr b i o m=>stO (h b) b size i o m x h
 |_=>none
theorem b9x (size:Nat) (a x:Opd):aM C ow (.store size a x) ev h n=a3W size (ev a) (ev x) h:=by
 simp only [aM,a3W,stO]
 cases ev a with
 |ptr b i o m=>dsimp only;cases h b<;>rfl
 |_=>rfl
theorem b6c (size b i o m:Nat) (x:V):a3W size (.ptr b i o m) x h=stO (h b) b size i o m x h:=rfl
theorem a4d (m b size o:Nat) (row:List V) (x:V):stO (some ⟨m,true,[row]⟩) b size 0 o 1 x h=
 br (Nat.beq x.cells.length size&&(Nat.ble (o+size) row.length&&x.cells.all V.cell)) (some (.undef,[(b,⟨m,true,[row.take o++(x.cells++row.drop (o+size))]⟩)])) none:=by
 rw [LD,KD]
 by_cases a:x.cells.length=size<;>by_cases c:o+size<=row.length<;>cases d:x.cells.all V.cell<;>simp [stO,a,c,d,br]
def stT (r:List (List V)) (m b size i o:Nat) (row:List V):Option (List V×List Nat)->Option (V×Upd)
 |some (cs,bs)=>br (Nat.beq cs.length size&&(Nat.ble (o+size) row.length&& !bs.contains b)) (some (.undef,iZ bs++[(b,⟨m,false,i4 r i (row.take o++(cs++row.drop (o+size)))⟩)])) none
 |none=>none
theorem a0g (r:List (List V)) (m b size i o:Nat) (row cs:List V) (bs:List Nat):stT r m b size i o row (some (cs,bs))=
 br (Nat.beq cs.length size&&(Nat.ble (o+size) row.length&& !bs.contains b)) (some (.undef,iZ bs++[(b,⟨m,false,i4 r i (row.take o++(cs++row.drop (o+size)))⟩)])) none:=rfl
theorem c4i (m b size i o q:Nat) (x:V) (c:l.length=q):stO (some ⟨m,false,rws e l⟩) b size i o q x h=(l[i]?).bind (fun y=>stT (rws e l) m b size i o (e.enc y) (nv h x.cells)):=by
 simp only [stO]
 have:(rws e l).length=q:=by simp [rws,c]
 rw [ae this]
 have a:(rws e l)[i]? =(l[i]?).map e.enc:=by simp [rws]
 rw [a]
 cases j:l[i]? with
 |none=>rfl
 |some y=>
  simp only [ea,nI]
  cases k:nv h x.cells with
  |none=>simp [stT]
  |some p=>
   obtain ⟨cs,bs⟩:=p
   rw [a0g,LD,KD]
   by_cases d:cs.length=size<;>by_cases a:o+size<=(e.enc y).length<;>by_cases f:b∈bs<;>simp [d,a,f,br,i4]
def psC (i:Nat):Option (List V×List Nat)->Option (List (Nat×V)×List Nat)->Option (List (Nat×V)×List Nat)
 |some (cs,bs),some (r',bs')=>some ((i,.agg cs)::r',bs++bs')
 |_,_=>none
theorem Tw:eo h ev []=some ([],[]):=rfl
theorem Sa (i:Nat) (x:Opd) (r:List (Nat×Opd)):eo h ev ((i,x)::r)=psC i (nv h (ev x).cells) (eo h ev r):=by
 simp only [eo,psC]
 cases nv h (ev x).cells<;>cases eo h ev r<;>rfl
theorem b2v (i:Nat) (cs:List V) (bs:List Nat) (r:List (Nat×V)) (bs':List Nat):psC i (some (cs,bs)) (some (r,bs'))=some ((i,.agg cs)::r,bs++bs'):=rfl
def Kn (esz:Nat) (rows:List (List V)):List (Nat×V)->Option (List (List V))
 |[]=>some rows
 | (i,v)::r=>br (Nat.beq v.cells.length esz&&(Nat.blt i rows.length&&v.cells.all V.cell)) (Kn esz (rows.set i v.cells) r) none
theorem a2Q (esz:Nat): ∀(ps:List (Nat×V)) (rows:List (List V)),PV esz rows ps=Kn esz rows ps
 |[],_=>rfl
 | (i,v)::r,rows=>by
   simp only [PV,Kn,LD,EU]
   rw [<-a2Q esz r]
   by_cases a:v.cells.length=esz<;>by_cases b:i<rows.length<;>cases c:v.cells.all V.cell<;>simp [a,b,br]
def a4B (u0:Upd):Option (V×Upd)->Option (V×Upd)
 |some (v,u)=>some (v,u0++u)
 |none=>none
theorem a9d (a u:Upd) (v:V):a4B a (some (v,u))=some (v,a++u):=rfl
theorem c1y (a:Upd) (c:Bool) (x y:Option (V×Upd)):a4B a (br c x y)=br c (a4B a x) (a4B a y):=by cases c<;>rfl
theorem a82 (a:Upd):a4B a none=none:=rfl
def bsR (esz len:Nat) (zero:List Value) (bs:List Nat) (h:b8) (n:Nat):Option (List (List V))->Option (V×Upd)
 |some rows=>br (Nat.beq zero.length esz&&(zero.all ci&&(Nat.ble (len*esz) 16777216&& !bs.contains n))) (a4B (iZ bs) (frO (h n) n ⟨esz,false,mkR n rows⟩ (.sl n 0 len))) none
 |none=>none
def bsS (esz len:Nat) (zero:List Value) (h:b8) (n:Nat):Option (List (Nat×V)×List Nat)->Option (V×Upd)
 |some (ps,bs)=>bsR esz len zero bs h n (Kn esz (List.replicate len (zero.map zc)) ps)
 |none=>none
theorem ZI (esz len:Nat) (zero:List Value) (ps:List (Nat×Opd)):aM C ow (.buildSlice esz zero len ps) ev h n=bsS esz len zero h n (eo h ev ps):=by
 simp only [aM,bsS,a2Q,yK]
 cases eo h ev ps with
 |none=>rfl
 |some p=>
  obtain ⟨qs,bs⟩:=p
  dsimp only
  cases Kn esz (List.replicate len (zero.map zc)) qs with
  |none=>rfl
  |some rows=>
   simp only [bsR,LD,KD,mkR]
   by_cases a:zero.length=esz<;>cases d:zero.all ci<;>by_cases b:len*esz<=16777216<;>by_cases c:n∈bs<;>simp [a,b,c,br]
   cases frO (h n) n ⟨esz,false,rows⟩ (.sl n 0 len)<;>rfl
theorem b1V (esz len:Nat) (zero:List Value) (ps:List (Nat×V)) (bs:List Nat):bsS esz len zero h n (some (ps,bs))=bsR esz len zero bs h n (Kn esz (List.replicate len (zero.map zc)) ps):=rfl
theorem b4O (esz len:Nat) (zero:List Value) (bs:List Nat) (rows:List (List V)):bsR esz len zero bs h n (some rows)=br (Nat.beq zero.length esz&&(zero.all ci&&(Nat.ble (len*esz) 16777216&& !bs.contains n))) (a4B (iZ bs) (frO (h n) n ⟨esz,false,mkR n rows⟩ (.sl n 0 len))) none:=rfl
def tbS (x:V) (h:b8) (n:Nat):Option (V×Upd):=match x with
 | .lit (.string s)=>if s.size<=cX then mK h n ⟨1,false,s.data.toList.map fun b=>[.lit (.int .u8 b.toNat)]⟩ (.sl n 0 s.size) else none
 |_=>none
theorem a9z (x:Opd):aM C ow (.toBytes x) ev h n=tbS (ev x) h n:=rfl
theorem c75 (s:List UInt8):tbS (S s) h n=br (cP s.length 1) (frO (h n) n ⟨1,false,rws eU8 s⟩ (.sl n 0 s.length)) none:=by
 simp only [tbS,WO,cP,pT,yK]
 by_cases a:s.length<=cX<;>simp [a,br]
 rfl
def boS (x:V) (h:b8):Option (V×Upd):=match x with
 | .sl b s n=>match h b with
   |some k=>if k.op=false/\0<k.esz/\s+n=k.rows.length/\0<n then some (.sl b s n,[(b,k)]) else none
   |none=>none
 |_=>none
theorem a6d (x:Opd):aM C ow (.bytesOwn x) ev h n=boS (ev x) h:=rfl
def boO (k:Option Blk) (b s n:Nat):Option (V×Upd):=match k with
 |some k=>if k.op=false/\0<k.esz/\s+n=k.rows.length/\0<n then some (.sl b s n,[(b,k)]) else none
 |none=>none
theorem b7f (b s q:Nat):boS (.sl b s q) h=boO (h b) b s q:=rfl
theorem c2D (b m q:Nat) (h0:Nat.blt 0 m=true) (a:l.length=q):boO (some ⟨m,false,rws e l⟩) b 0 q=br (decide (0<q)) (some (.sl b 0 q,[(b,⟨m,false,rws e l⟩)])) none:=by
 rw [EU,aC] at h0
 by_cases c:0<q<;>simp [boO,rws,a,h0,c,br]
theorem a2R (l:List UInt8):aM.bytesOf (rws eU8 l)=some l:=by
 induction l with
 |nil=>rfl
 |cons b l ih=>
  simp only [rws,aP,eU8] at ih ⊢
  simp only [aM.bytesOf]
  have a:(0:Int)<=(b.toNat:Int)/\(b.toNat:Int)<256:=⟨by omega,by have:=b.toNat_lt;omega⟩
  rw [ae a,ih]
  simp
noncomputable def tsR:Option (List (List V))->Option (V×Upd)
 |some rows=>match aM.bytesOf rows with
  |some l=>some (.lit (.string ⟨l.toArray⟩),[])
  |none=>none
 |none=>none
noncomputable def tsS (x:V) (h:b8):Option (V×Upd):=br (a6M x) none (tsR (ed h 1 x))
theorem b9j (x:Opd):aM C ow (.toStr x) ev h n=tsS (ev x) h:=by
 simp only [aM,tsS,tsR]
 cases a6M (ev x)
 ·simp only [bx,if_false,ba]
  cases ed h 1 (ev x)<;>rfl
 ·rfl
theorem b2x (l:List UInt8):tsR (some (rws eU8 l))=some (S l,[]):=by
 simp only [tsR,a2R]
theorem c69 (l:List UInt8):tsS (sl eU8 l) h=some (S l,[]):=by
 rw [tsS,a3n,ba,VU 1 rfl,b2x]
def roO (k:Option Blk) (m s q:Nat):Option (List (List V)):=match k with
 |some k=>if k.op=false/\0<k.esz/\k.esz=m/\s+q=k.rows.length then some (k.rows.drop s) else none
 |none=>none
theorem a6s (m b s q:Nat):ed h m (.sl b s q)=roO (h b) m s q:=rfl
theorem c4d (m q:Nat) (h0:Nat.blt 0 m=true) (a:l.length=q):roO (some ⟨m,false,rws e l⟩) m 0 q=some (rws e l):=by
 rw [EU,aC] at h0
 simp [roO,rws,a,h0]
theorem a6j (s:List UInt8):ed h 1 (S s)=some (rws eU8 s):=rfl
theorem b9p (b s q:Nat):tsS (.sl b s q) h=tsR (roO (h b) 1 s q):=rfl
theorem b7e:tsS (.lit (.slice none 0 0)) h=some (S [],[]):=rfl
theorem b78:tsS (.imm 1 []) h=some (S [],[]):=rfl
def c2U (esz bytes:Nat) (zero:List Value) (len cap:V) (h:b8) (n:Nat):Option (V×Upd):=match asI len,asI cap with
 |some l,some c=>if 0<=l/\l<=c/\c*bytes<=cX/\c*esz<=cX/\zero.length=esz/\zero.all ci then
  mK h n ⟨esz,false,List.replicate l.toNat (zero.map zc)⟩ (.sl n 0 l.toNat) else none
 |_,_=>none
theorem a28 (esz bytes:Nat) (zero:List Value) (len cap:Opd):aM C ow (.makeSlice esz bytes zero len cap) ev h n=c2U esz bytes zero (ev len) (ev cap) h n:=rfl
theorem c4j (esz bytes:Nat) (zero:List Value) (k k':IntKind) (a c:Int) (e:Nat.ble esz bytes=true) (f:Nat.beq zero.length esz=true) (b:zero.all ci=true):
 c2U esz bytes zero (.lit (.int k a)) (.lit (.int k' c)) h n=br (zf a c bytes) (frO (h n) n ⟨esz,false,Bi n a.toNat (zero.map zc)⟩ (.sl n 0 (a7v (Bi n a.toNat (zero.map zc))))) none:=by
 have d:=hO f
 have i:=cD e
 simp only [c2U,asI,zf,d,b,yK,Bi,a7v,aS]
 by_cases j:0<=a<;>by_cases l:a<=c<;>by_cases m:c*bytes<=cX<;>simp [j,l,m,br]
 intro o
 exfalso
 have:c*esz<=c*bytes:=Int.mul_le_mul_of_nonneg_left (by omega) (by omega)
 omega
def slS (esz:Nat) (x:V) (lo hi mx:Option V) (h:b8):Option (V×Upd):=match mx with
 |some _=>none
 |none=>match x with
  | .lit (.slice none 0 0)=>match dt hi 0 0 with
    |some q=>match dt lo 0 q with
     |some _=>some (.lit (.slice none 0 0),[])
     |none=>none
    |none=>none
  | .sl b s n=>match h b with
    |some k=>if k.op=false/\0<k.esz/\k.esz=esz/\s+n=k.rows.length then (match dt hi n n with
     |some q=>match dt lo 0 q with
      |some p=>if q=n then some (.sl b (s+p) (n-p),[]) else some ((V.imm esz (((k.rows.drop s).take q).drop p)).cz,[(b,mO)])
      |none=>none
     |none=>none) else none
    |none=>none
  | .imm e rows=>if e=esz\/rows=[] then (match dt hi rows.length rows.length with
   |some q=>match dt lo 0 q with
    |some p=>some ((V.imm e ((rows.take q).drop p)).cz,[])
    |none=>none
   |none=>none) else none
  |_=>none
theorem c1u (esz:Nat) (x:Opd) (lo hi:Option Opd):aM C ow (.slice esz x lo hi none) ev h n=slS esz (ev x) (lo.map ev) (hi.map ev) none h:=rfl
theorem yx (d m:Nat):dt none d m=some d:=rfl
theorem Dr (k:IntKind) (i:Int) (d m:Nat):dt (some (.lit (.int k i))) d m=if 0<=i/\i<=m then some i.toNat else none:=rfl
theorem Ph (m:Nat) (b:e.esz=m) (lo hi:Option V):slS m (sl e l) lo hi none h=(match dt hi l.length l.length with
 |some q=>match dt lo 0 q with
  |some p=>some (sl e ((l.take q).drop p),[])
  |none=>none
 |none=>none):=by
 subst b
 rcases l6 e l with ⟨rfl,a⟩|⟨c,a⟩
 ·rw [a]
  simp only [slS,ai,or_true,if_true]
  cases dt hi 0 0 with
  |none=>rfl
  |some q=>cases dt lo 0 q<;>simp [c2W,V.cz]
 ·rw [a]
  simp only [slS,true_or,if_true,rws,aO]
  cases dt hi l.length l.length with
  |none=>rfl
  |some q=>cases dt lo 0 q<;>simp [sl,rws, <-List.map_take, <-List.map_drop]
theorem c46 (m:Nat) (a:e.esz=m):slS m (sl e l) none none none h=some (sl e l,[]):=by
 rw [Ph m a];simp [yx]
theorem c3P (m:Nat) (b:e.esz=m) (k:IntKind) (a:Int):slS m (sl e l) (some (.lit (.int k a))) none none h=(lr l a l.length).bind (fun l'=>some (sl e l',[])):=by
 rw [Ph m b]
 simp only [yx,Dr,lr]
 by_cases c:0<=a<;>by_cases d:a<=(l.length:Int)<;>simp [c,d]
theorem c4w (m:Nat) (a:e.esz=m) (k:IntKind) (b:Int):slS m (sl e l) none (some (.lit (.int k b))) none h=(lr l 0 b).bind (fun l'=>some (sl e l',[])):=by
 rw [Ph m a]
 simp only [yx,Dr,lr]
 by_cases c:0<=b<;>by_cases d:b<=(l.length:Int)<;>simp [c,d]
theorem c4F (m:Nat) (c:e.esz=m) (k k':IntKind) (a b:Int):slS m (sl e l) (some (.lit (.int k a))) (some (.lit (.int k' b))) none h=(lr l a b).bind (fun l'=>some (sl e l',[])):=by
 rw [Ph m c]
 simp only [Dr,lr]
 by_cases d:0<=b<;>by_cases f:b<=(l.length:Int)<;>by_cases i:0<=a<;>by_cases j:a<=b
 all_goals (have e1:((b.toNat:Nat):Int)=b\/ ¬0<=b:=by omega)
 all_goals (rcases e1 with e1|e1)
 all_goals (first|omega| (simp [d,f,i,j,e1];try omega))
def slO (k:Option Blk) (m b s q:Nat) (a:Int):Option (V×Upd):=match k with
 |some k=>if k.op=false/\0<k.esz/\k.esz=m/\s+q=k.rows.length then (if 0<=a/\a<=q then some (.sl b (s+a.toNat) (q-a.toNat),[]) else none) else none
 |none=>none
theorem b7O (m b s q:Nat) (k:IntKind) (a:Int):slS m (.sl b s q) (some (.lit (.int k a))) none none h=slO (h b) m b s q a:=by
 simp only [slS,slO,yx,Dr]
 cases h b with
 |none=>rfl
 |some k=>
  dsimp only
  split
  ·by_cases hc:0<=a/\a<=(q:Int)
   ·rw [ae hc,ae hc];simp
   ·rw [aa hc,aa hc]
  ·rfl
theorem c5n (m b s q:Nat) (a:Int) (h0:Nat.blt 0 m=true) (c:s+q=l.length):slO (some ⟨m,false,rws e l⟩) m b s q a=br (decide (0<=a)&&decide (a<=q)) (some (.sl b (s+a.toNat) (q-a.toNat),[])) none:=by
 rw [EU,aC] at h0
 by_cases d:0<=a<;>by_cases f:a<=(q:Int)<;>simp [slO,rws,c,h0,d,f,br]
def ssS (x:V) (lo hi:Option V):Option (V×Upd):=match x with
 | .lit (.string s)=>match dt hi s.size s.size with
   |some b=>match dt lo 0 b with
    |some a=>some (.lit (.string (s.extract a b)),[])
    |none=>none
   |none=>none
 |_=>none
theorem a65 (x:Opd) (lo hi:Option Opd):aM C ow (.sliceStr x lo hi) ev h n=ssS (ev x) (lo.map ev) (hi.map ev):=rfl
theorem a5v (s:List UInt8) (a b:Nat):(⟨⟨s⟩⟩:ByteArray).extract a b=⟨⟨(s.take b).drop a⟩⟩:=by
 apply ByteArray.ext
 rw [ByteArray.data_extract]
 apply eD
 simp [List.extract_eq_take_drop,List.drop_take]
theorem Pi (s:List UInt8) (lo hi:Option V):ssS (S s) lo hi=(match dt hi s.length s.length with
 |some q=>match dt lo 0 q with
  |some p=>some (S ((s.take q).drop p),[])
  |none=>none
 |none=>none):=by
 simp only [ssS,WO,a5v]
theorem c4Y (s:List UInt8):ssS (S s) none none=some (S s,[]):=by rw [Pi];simp [yx]
theorem c4o (s:List UInt8) (k:IntKind) (a:Int):ssS (S s) (some (.lit (.int k a))) none=(lr s a s.length).bind (fun l'=>some (S l',[])):=by
 rw [Pi]
 simp only [yx,Dr,lr]
 by_cases b:0<=a<;>by_cases c:a<=(s.length:Int)<;>simp [b,c]
theorem c6p (s:List UInt8) (k:IntKind) (b:Int):ssS (S s) none (some (.lit (.int k b)))=(lr s 0 b).bind (fun l'=>some (S l',[])):=by
 rw [Pi]
 simp only [yx,Dr,lr]
 by_cases a:0<=b<;>by_cases c:b<=(s.length:Int)<;>simp [a,c]
theorem c4z (s:List UInt8) (k k':IntKind) (a b:Int):ssS (S s) (some (.lit (.int k a))) (some (.lit (.int k' b)))=(lr s a b).bind (fun l'=>some (S l',[])):=by
 rw [Pi]
 simp only [Dr,lr]
 by_cases c:0<=b<;>by_cases d:b<=(s.length:Int)<;>by_cases e:0<=a<;>by_cases f:a<=b
 all_goals (have e1:((b.toNat:Nat):Int)=b\/ ¬0<=b:=by omega)
 all_goals (rcases e1 with e1|e1)
 all_goals (first|omega| (simp [c,d,e,f,e1];try omega))
noncomputable def apS (esz bytes:Nat) (zero:List Value) (x y:V) (h:b8) (n:Nat):Option (List (List V))->Option (V×Upd)
 |none=>none
 |some new_=>if zero.length=esz/\0<esz/\new_.length*bytes<=cX/\new_.length*esz<=cX then
  (match x with
  | .sl b 0 n=>match h b with
    |some k=>if k.op=false/\0<k.esz/\k.esz=esz/\n=k.rows.length/\(n+new_.length)*bytes<=cX/\(n+new_.length)*esz<=cX/\aM.selfOk b y then
     some (.sl b 0 (n+new_.length),[(b,{ k with rows:=k.rows++new_ })]) else none
    |none=>none
  | .lit (.slice none 0 0)=>mK h n ⟨esz,false,new_⟩ (.sl n 0 new_.length)
  | .imm 0 []=>mK h n ⟨esz,false,new_⟩ (.sl n 0 new_.length)
  |_=>none) else none
theorem b3q (esz bytes:Nat) (zero:List Value) (x y:Opd):aM C ow (.append esz bytes zero x y) ev h n=apS esz bytes zero (ev x) (ev y) h n (ed h esz (ev y)):=by
 simp only [aM]
 cases ed h esz (ev y) with
 |none=>rfl
 |some r=>rfl
noncomputable def HJ (b:Nat) (y:V):Bool:=aM.selfOk b y
theorem b5Y (b:Nat):HJ b (sl e l)=true:=by
 rcases l6 e l with ⟨_,h⟩|⟨_,h⟩<;>rw [h]<;>rfl
theorem a9X (b b' s q:Nat):HJ b (.sl b' s q)=(b !=b'):=rfl
theorem a9w (b:Nat) (s:List UInt8):HJ b (S s)=true:=rfl
theorem b00 (b:Nat):HJ b (.lit (.slice none 0 0))=true:=rfl
theorem b0P (b m:Nat) (r:List (List V)):HJ b (.imm m r)=true:=rfl
def apO (k:Option Blk) (esz bytes:Nat) (zero:List Value) (b q:Nat) (sb:Bool) (new_:List (List V)):Option (V×Upd):=match k with
 |some k=>if zero.length=esz/\0<esz/\new_.length*bytes<=cX/\new_.length*esz<=cX then
  (if k.op=false/\0<k.esz/\k.esz=esz/\q=k.rows.length/\(q+new_.length)*bytes<=cX/\(q+new_.length)*esz<=cX/\sb=true then
        some (.sl b 0 (q+new_.length),[(b,{ k with rows:=k.rows++new_ })]) else none) else none
 |none=>none
theorem c0e (esz bytes:Nat) (zero:List Value) (b q:Nat) (y:V) (new_:List (List V)):apS esz bytes zero (.sl b 0 q) y h n (some new_)=apO (h b) esz bytes zero b q (HJ b y) new_:=by
 simp only [apS,apO,HJ]
 cases h b with
 |none=>simp
 |some k=>rfl
theorem c4a (m bytes:Nat) (zero:List Value) (b q:Nat) (sb:Bool) (f:Nat.beq zero.length m=true) (h0:Nat.blt 0 m=true) (h:Nat.ble m bytes=true) (i:l.length=q) (j:sb=true):
 apO (some ⟨m,false,rws e l⟩) m bytes zero b q sb (rws e l2)=br (cP (l++l2).length bytes) (some (.sl b 0 (l++l2).length,[(b,⟨m,false,rws e (l++l2)⟩)])) none:=by
 have d:=hO f
 have a:=cD h
 rw [EU,aC] at h0
 subst j i
 simp only [apO,cP,rws,aO,ab,cI]
 have e1:(l.length+l2.length)*m<=(l.length+l2.length)*bytes:=iA _ a
 have e2:l2.length*bytes<=(l.length+l2.length)*bytes:=bj _ (by omega)
 have k:l2.length*m<=l2.length*bytes:=iA _ a
 by_cases c:(l.length+l2.length)*bytes<=cX
 ·rw [ae ⟨d,h0,by omega,by omega⟩,ae ⟨by trivial,h0,by trivial,by trivial,c,by omega,by trivial⟩,al c,cK]
 ·rw [ag c,ba]
  split
  ·rw [aa (fun hc=>c hc.2.2.2.2.1)]
  ·rfl
theorem c0o (m bytes:Nat) (zero:List Value) (y:V) (d:Nat.beq zero.length m=true) (h0:Nat.blt 0 m=true) (f:Nat.ble m bytes=true):
 apS m bytes zero (.lit (.slice none 0 0)) y h n (some (rws e l2))=br (cP l2.length bytes) (frO (h n) n ⟨m,false,rws e l2⟩ (.sl n 0 l2.length)) none:=by
 have b:=hO d
 have c:=cD f
 rw [EU,aC] at h0
 simp only [apS,cP,yK]
 have i:(rws e l2).length=l2.length:=by simp [rws]
 rw [i]
 have j:l2.length*m<=l2.length*bytes:=iA _ c
 by_cases a:l2.length*bytes<=cX
 ·rw [ae ⟨b,h0,a,by omega⟩,al a,cK]
 ·rw [ag a,ba,aa (fun hc=>a hc.2.2.1)]
def BL (l:List α) (s k:Nat) (l2:List α):List α:=l.take s++(l2.take k++l.drop (s+k))
def c2u (esz bytes:Nat) (zero:List Value) (x y:V) (h:b8) (n:Nat):Option (V×Upd):=match asI y with
 |some l=>if 0<=l/\l<=1099511627776/\l*bytes<=1099511627776/\zero.all ci then JB esz bytes zero x (fun _=>true) h n (List.replicate l.toNat (zero.map zc)) else none
 |none=>none
theorem a8v (esz bytes:Nat) (zero:List Value) (x y:Opd):aM C ow (.appendN esz bytes zero x y) ev h n=c2u esz bytes zero (ev x) (ev y) h n:=rfl
theorem b31 (m bytes:Nat) (zero:List Value) (b q:Nat) (k:IntKind) (a:Int) (c:zero.all ci=true):
 c2u m bytes zero (.sl b 0 q) (.lit (.int k a)) h n=br (zf a a bytes&&decide (a<=1099511627776)) (apO (h b) m bytes zero b q true (Bi n a.toNat (zero.map zc))) none:=by
 simp only [c2u,asI,zf,c,Bi,cX]
 by_cases d:0<=a<;>by_cases e:a*bytes<=1099511627776<;>by_cases f:a<=1099511627776<;>simp [d,e,f,br]
 simp only [JB,apO]
 cases h b with
 |none=>simp
 |some kk=>rfl
noncomputable def cpS (esz:Nat) (x y:V) (h:b8):Option (List (List V))->Option (V×Upd)
 |some rows=>match x with
  | .sl b s n=>match h b with
    |some k=>if k.op=false/\0<k.esz/\k.esz=esz/\s+n=k.rows.length/\aM.selfOk b y then
     some (.lit (.int .i64 (min rows.length n)),[(b,{ k with rows:=k.rows.take s++(rows.take (min rows.length n)++k.rows.drop (s+min rows.length n)) })]) else none
    |none=>none
  |_=>none
 |none=>none
theorem c2T (esz:Nat) (x y:Opd):aM C ow (.copy esz x y) ev h n=cpS esz (ev x) (ev y) h (ed h esz (ev y)):=by
 simp only [aM,cpS]
 cases ed h esz (ev y) with
 |none=>rfl
 |some r=>cases ev x<;>rfl
def cpO (k:Option Blk) (esz b s q:Nat) (sb:Bool) (rows:List (List V)):Option (V×Upd):=match k with
 |some k=>if k.op=false/\0<k.esz/\k.esz=esz/\s+q=k.rows.length/\sb=true then
  some (.lit (.int .i64 (min rows.length q)),[(b,{ k with rows:=k.rows.take s++(rows.take (min rows.length q)++k.rows.drop (s+min rows.length q)) })]) else none
 |none=>none
theorem b8H (esz b s q:Nat) (y:V) (rows:List (List V)):cpS esz (.sl b s q) y h (some rows)=cpO (h b) esz b s q (HJ b y) rows:=by
 simp only [cpS,cpO,HJ]
 cases h b<;>rfl
theorem c5K (m b s q:Nat) (sb:Bool) (h0:Nat.blt 0 m=true) (c:sb=true):cpO (some ⟨m,false,rws e l⟩) m b s q sb (rws e l2)=
 br (decide (s+q=l.length)) (some (I (min (l2.length:Int) (q:Int)),[(b,⟨m,false,rws e (BL l s (min l2.length q) l2)⟩)])) none:=by
 rw [EU,aC] at h0
 subst c
 simp only [cpO]
 by_cases a:s+q=l.length
 ·rw [ae ⟨by trivial,h0,by trivial,by simp [rws,a],by trivial⟩,al a,cK]
  simp [rws,BL,List.map_take,List.map_drop]
 ·rw [ag a,ba,aa (fun hc=>a (by simpa [rws] using hc.2.2.2.1))]
def ncS (x:V) (h:b8):Option (V×Upd):=match x with
 | .ptr b i o n=>match h b with
   |some k=>if k.rows.length=n/\i<n then some (.ptr b i o n,[]) else none
   |none=>none
 | .iptr r o=>some (.iptr r o,[])
 | .fn f c=>some (.fn f c,[])
 |_=>none
theorem a3V (x:Opd):aM C ow (.nilCheck x) ev h n=ncS (ev x) h:=by
 simp only [aM,ncS]
 cases ev x<;>rfl
def ncO (k:Option Blk) (b i o m:Nat):Option (V×Upd):=match k with
 |some k=>if k.rows.length=m/\i<m then some (.ptr b i o m,[]) else none
 |none=>none
theorem c7x (b i o m:Nat):ncS (.ptr b i o m) h=ncO (h b) b i o m:=rfl
theorem c4g (b o m:Nat) (row:List V):ncO (some ⟨m,true,[row]⟩) b 0 o 1=some (.ptr b 0 o 1,[]):=rfl
theorem c7H (r:List V) (o:Nat):ncS (.iptr r o) h=some (.iptr r o,[]):=rfl
theorem c6S (f:FuncId) (c:List V):ncS (.fn f c) h=some (.fn f c,[]):=rfl
def mxS (x y:V):Option (V×Upd):=match x,y with
 | .lit (.int k a),.lit (.int _ b)=>some (.lit (.int k (if b>a then b else a)),[])
 |_,_=>none
theorem c5a (x y:Opd):aM C ow (.max2 x y) ev h n=mxS (ev x) (ev y):=by
 simp only [aM,mxS]
 cases ev x<;>cases ev y<;>rfl
theorem c89 (k k':IntKind) (a b:Int):mxS (.lit (.int k a)) (.lit (.int k' b))=some (.lit (.int k (mx a b)),[]):=rfl
def mnS (x y:V):Option (V×Upd):=match x,y with
 | .lit (.int k a),.lit (.int _ b)=>some (.lit (.int k (if b<a then b else a)),[])
 |_,_=>none
theorem c4v (x y:Opd):aM C ow (.min2 x y) ev h n=mnS (ev x) (ev y):=by
 simp only [aM,mnS]
 cases ev x<;>cases ev y<;>rfl
theorem c6E (k k':IntKind) (a b:Int):mnS (.lit (.int k a)) (.lit (.int k' b))=some (.lit (.int k (mn a b)),[]):=rfl
noncomputable def Np (fl ro:Bool) (h:b8) (new:Nat) (ids bor:List Nat):Option (V×List Blk)->Option (V×Upd)
 |some (r,bs)=>roW ro h (yl fl h new ids bor r bs)
 |none=>none
noncomputable def roX (k':Option Blk) (b:Nat) (k:Blk) (x:Option Upd):Option Upd:=match k' with
 |none=>x.map ((b,k):: ·)
 |some k'=>open Classical in if k'=k then x else none
def roE (v:V):Option Upd->Option (V×Upd)
 |some u=>some (v,u)
 |none=>none
theorem c1z:roU h []=some []:=rfl
theorem b1Q (b:Nat) (k:Blk) (r:Upd):roU h ((b,k)::r)=roX (h b) b k (roU h r):=by
 simp only [roU,roX];cases h b<;>rfl
theorem b1C (b:Nat) (k:Blk) (x:Option Upd):roX (some k) b k x=x:=by simp [roX]
theorem b3t (b:Nat) (k:Blk) (u:Upd):roX none b k (some u)=some ((b,k)::u):=rfl
theorem b2L (v:V) (u:Upd):roE v (some u)=some (v,u):=rfl
theorem c7p (x:Option (V×Upd)):roW false h x=x:=by cases x<;>rfl
theorem c4O (c:Bool) (x y:Option (V×Upd)):roW true h (br c x y)=br c (roW true h x) (roW true h y):=by cases c<;>rfl
theorem b4P:roW true h none=none:=rfl
theorem b2R (v:V) (u:Upd):roW true h (some (v,u))=roE v (roU h u):=by
 simp only [roW,if_true,roE];cases roU h u<;>rfl
noncomputable def Kq (C:ce) (ow:FuncId->List Nat) (h:b8) (new:Nat) (f:FuncId):Option (List V×List Blk×List Nat×List Nat)->Option (V×Upd)
 |some (args',blks,ids,bor)=>Np ((ow f).contains 2000) ((ow f).contains 3000) h new ids bor (C f (ul (ow f) args') (tY (ow f) blks))
 |none=>none
theorem W0 (f:FuncId) (args:List V):nV C ow h n f args=Kq C ow h n f (fi ow h f args):=by
 unfold nV Kq Np
 cases fi ow h f args with
 |none=>rfl
 |some p=>obtain ⟨a,b,c,d⟩:=p;dsimp only;cases C f (ul (ow f) a) (tY (ow f) b)<;>rfl
theorem c3D (f:FuncId) (args:List Opd):aM C ow (.call f args) ev h n=Kq C ow h n f (fi ow h f (args.map ev)):=W0 _ _
noncomputable def c5f (C:ce) (ow:FuncId->List Nat) (h:b8) (n:Nat) (args:List V):V->Option (V×Upd)
 | .fn k caps=>Kq C ow h n k (fi ow h k (args++caps))
 |_=>none
theorem c7r (f:Opd) (args:List Opd):aM C ow (.dyn f args) ev h n=c5f C ow h n (args.map ev) (ev f):=by
 simp only [aM,c5f]
 cases ev f<;>first|rfl|exact W0 _ _
theorem b9L (args:List V) (k:FuncId) (caps:List V):c5f C ow h n args (.fn k caps)=Kq C ow h n k (fi ow h k (args++caps)):=rfl
theorem a6b (f:FuncId) (a:List V) (b:List Blk) (c d:List Nat):Kq C ow h n f (some (a,b,c,d))=Np ((ow f).contains 2000) ((ow f).contains 3000) h n c d (C f (ul (ow f) a) (tY (ow f) b)):=rfl
theorem b4u (f:FuncId) (c:Bool) (x y:Option (List V×List Blk×List Nat×List Nat)):Kq C ow h n f (br c x y)=br c (Kq C ow h n f x) (Kq C ow h n f y):=by cases c<;>rfl
def a6v (args':List V) (bor:List Nat):Option (List Blk×List Nat)->Option (List V×List Blk×List Nat×List Nat)
 |some (blks,ids)=>br (bor.any (fun b=>decide (b∈ids))) none (some (args',blks,ids,bor))
 |none=>none
def a2F (h:b8):Option (List V×List Nat×List Nat)->Option (List V×List Blk×List Nat×List Nat)
 |some (args',ids0,bor)=>a6v args' bor (fL h 40 0 ids0)
 |none=>none
theorem a2K (f:FuncId) (args:List V):fi ow h f args=a2F h (jM h (ow f) 0 [] args):=by
 unfold fi a2F a6v
 cases jM h (ow f) 0 [] args with
 |none=>rfl
 |some p=>
  obtain ⟨a,i,b⟩:=p
  dsimp only
  cases fL h 40 0 i with
  |none=>rfl
  |some q=>
   obtain ⟨bl,ids⟩:=q
   dsimp only
   cases c:b.any (fun b=>decide (b∈ids))<;>simp [br]
theorem a6l (a:List V) (i b:List Nat):a2F h (some (a,i,b))=a6v a b (fL h 40 0 i):=rfl
theorem a5T (a:List V) (b:List Nat) (bl:List Blk) (ids:List Nat):a6v a b (some (bl,ids))=br (b.any (fun b=>decide (b∈ids))) none (some (a,bl,ids,b)):=rfl
def la2 (v':V) (bs:List Nat):Option (List V×List Nat×List Nat)->Option (List V×List Nat×List Nat)
 |some (r',ids'',bs')=>some (v'::r',ids'',bs++bs')
 |none=>none
def la1 (h:b8) (owns:List Nat) (j:Nat) (r:List V):Option (V×List Nat×List Nat)->Option (List V×List Nat×List Nat)
 |some (v',ids',bs)=>la2 v' bs (jM h owns (j+1) ids' r)
 |none=>none
theorem a0w (owns:List Nat) (j:Nat) (ids:List Nat):jM h owns j ids []=some ([],ids,[]):=rfl
theorem Zc (owns:List Nat) (j:Nat) (ids:List Nat) (v:V) (r:List V):jM h owns j ids (v::r)=la1 h owns j r (fm h (owns.contains j) ids v):=by
 have:decide (j∈owns)=owns.contains j:=by simp [List.contains_iff_mem,pp]
 simp only [jM,la1,la2,this]
 cases fm h (owns.contains j) ids v with
 |none=>rfl
 |some p=>obtain ⟨a,b,c⟩:=p;dsimp only;cases jM h owns (j+1) b r<;>rfl
theorem b1R (owns:List Nat) (j:Nat) (r:List V) (v':V) (ids' bs:List Nat):la1 h owns j r (some (v',ids',bs))=la2 v' bs (jM h owns (j+1) ids' r):=rfl
theorem b5c (v':V) (bs:List Nat) (r':List V) (i b:List Nat):la2 v' bs (some (r',i,b))=some (v'::r',i,bs++b):=rfl
def lcP (k:Option Blk) (ids:List Nat) (b i o m:Nat):Option (V×List Nat×List Nat):=match k with
 |some k=>if k.rows.length=m then some (.ptr (kL b (gi ids b)) i o m,gi ids b,[]) else none
 |none=>none
def lcO (k:Option Blk) (own:Bool) (ids:List Nat) (b s q:Nat):Option (V×List Nat×List Nat):=match k with
 |some k=>if s+q=k.rows.length then
  (if own then some (.sl (kL b (gi ids b)) s q,gi ids b,[]) else if k.op=false/\0<k.esz then some (.imm k.esz (k.rows.drop s),ids,[b]) else none) else none
 |none=>none
theorem b4g (own:Bool) (ids:List Nat) (v:Value):dv h own ids (.lit v)=some (.lit v,ids,[]):=rfl
theorem c4m (own:Bool) (ids:List Nat) (m:Nat) (r:List (List V)):dv h own ids (.imm m r)=some (.imm m r,ids,[]):=rfl
theorem b9y (own:Bool) (ids:List Nat) (r:List V) (o:Nat):dv h own ids (.iptr r o)=some (.iptr r o,ids,[]):=rfl
theorem c7F (own:Bool) (ids:List Nat) (f:FuncId):dv h own ids (.fn f [])=some (.fn f [],ids,[]):=rfl
theorem b3E (own:Bool) (ids:List Nat):dv h own ids .undef=some (.undef,ids,[]):=rfl
theorem c42 (own:Bool) (ids:List Nat) (b i o m:Nat):dv h own ids (.ptr b i o m)=lcP (h b) ids b i o m:=rfl
theorem c5Z (own:Bool) (ids:List Nat) (b s q:Nat):dv h own ids (.sl b s q)=lcO (h b) own ids b s q:=rfl
theorem R5 (own:Bool) (ids:List Nat) (v:Value):fm h own ids (.lit v)=some (.lit v,ids,[]):=rfl
theorem c3J (own:Bool) (ids:List Nat) (m:Nat) (r:List (List V)):fm h own ids (.imm m r)=some (.imm m r,ids,[]):=rfl
theorem c0u (own:Bool) (ids:List Nat) (r:List V) (o:Nat):fm h own ids (.iptr r o)=some (.iptr r o,ids,[]):=rfl
theorem c3i (own:Bool) (ids:List Nat) (b i o m:Nat):fm h own ids (.ptr b i o m)=lcP (h b) ids b i o m:=rfl
theorem c47 (own:Bool) (ids:List Nat) (b s q:Nat):fm h own ids (.sl b s q)=lcO (h b) own ids b s q:=rfl
def lcA (mk:List V->V):Option (List V×List Nat×List Nat)->Option (V×List Nat×List Nat)
 |some (cs',ids',bs)=>some (mk cs',ids',bs)
 |none=>none
theorem c6g (own:Bool) (ids:List Nat) (cs:List V):fm h own ids (.agg cs)=lcA V.agg (eQ h own ids cs):=by
 simp only [fm,lcA]
 cases eQ h own ids cs<;>rfl
theorem c8f (own:Bool) (ids:List Nat) (f:FuncId) (cs:List V):fm h own ids (.fn f cs)=lcA (V.fn f) (eQ h true ids cs):=by
 simp only [fm,lcA]
 cases eQ h true ids cs<;>rfl
theorem b4d (mk:List V->V) (cs:List V) (i b:List Nat):lcA mk (some (cs,i,b))=some (mk cs,i,b):=rfl
def b6F (h:b8) (own:Bool) (r:List V):Option (V×List Nat×List Nat)->Option (List V×List Nat×List Nat)
 |some (v',ids',bs)=>la2 v' bs (eQ h own ids' r)
 |none=>none
theorem Z3 (own:Bool) (ids:List Nat):eQ h own ids []=some ([],ids,[]):=rfl
theorem HX (own:Bool) (ids:List Nat) (v:V) (r:List V):eQ h own ids (v::r)=b6F h own r (dv h own ids v):=by
 simp only [eQ,b6F,la2]
 cases dv h own ids v with
 |none=>rfl
 |some p=>obtain ⟨a,b,c⟩:=p;dsimp only;cases eQ h own b r<;>rfl
theorem VI (own:Bool) (r:List V) (v':V) (ids' bs:List Nat):b6F h own r (some (v',ids',bs))=la2 v' bs (eQ h own ids' r):=rfl
theorem c2N (ids:List Nat) (b o m:Nat) (row:List V):lcP (some ⟨m,true,[row]⟩) ids b 0 o 1=some (.ptr (kL b (gi ids b)) 0 o 1,gi ids b,[]):=rfl
theorem c7N (m:Nat) (ids:List Nat) (b s q:Nat) (a:s+q=l.length):lcO (some ⟨m,false,rws e l⟩) true ids b s q=some (.sl (kL b (gi ids b)) s q,gi ids b,[]):=by
 simp [lcO,rws,a]
theorem c7s (m:Nat) (ids:List Nat) (b q:Nat) (h0:Nat.blt 0 m=true) (a:l.length=q):lcO (some ⟨m,false,rws e l⟩) false ids b 0 q=some (.imm m (rws e l),ids,[b]):=by
 rw [EU,aC] at h0
 simp [lcO,rws,a,h0]
def lb2 (k:Blk):Option (List Blk×List Nat)->Option (List Blk×List Nat)
 |some (r,ids')=>some (k::r,ids')
 |none=>none
def ld2 (v':V):Option (List V×List Nat)->Option (List V×List Nat)
 |some (r',i)=>some (v'::r',i)
 |none=>none
def ld1 (h:b8) (r:List V):Option (V×List Nat×List Nat)->Option (List V×List Nat)
 |some (v',ids',_)=>ld2 v' (rj h ids' r)
 |none=>none
theorem b0E (ids:List Nat):rj h ids []=some ([],ids):=rfl
theorem yd (ids:List Nat) (v:V) (r:List V):rj h ids (v::r)=ld1 h r (fm h true ids v):=by
 simp only [rj,ld1,ld2]
 cases fm h true ids v with
 |none=>rfl
 |some p=>obtain ⟨a,b,c⟩:=p;dsimp only;cases rj h b r<;>rfl
theorem Fh (r:List V) (v':V) (ids' bs:List Nat):ld1 h r (some (v',ids',bs))=ld2 v' (rj h ids' r):=rfl
theorem b6v (v':V) (r':List V) (i:List Nat):ld2 v' (some (r',i))=some (v'::r',i):=rfl
def lb1 (h:b8) (fuel pos m:Nat):Option (List V×List Nat)->Option (List Blk×List Nat)
 |some (row,ids1)=>lb2 ⟨m,true,[row]⟩ (fL h fuel (pos+1) ids1)
 |none=>none
def lb0 (h:b8) (fuel pos:Nat) (ids:List Nat):Option Blk->Option (List Blk×List Nat)
 |some k=>if k.op=false then lb2 k (fL h fuel (pos+1) ids) else (match oS h ids k.rows with
  |none=>none
  |some (rows,ids1)=>lb2 { k with rows:=rows } (fL h fuel (pos+1) ids1))
 |none=>none
def lbN (h:b8) (fuel pos:Nat) (ids:List Nat):Option Nat->Option (List Blk×List Nat)
 |none=>some ([],ids)
 |some b=>lb0 h fuel pos ids (h b)
theorem a4G (fuel pos:Nat) (ids:List Nat):fL h (fuel+1) pos ids=lbN h fuel pos ids ids[pos]? :=by
 simp only [fL,lbN,lb0]
 cases ids[pos]? with
 |none=>rfl
 |some b=>
  dsimp only
  cases h b with
  |none=>rfl
  |some k=>
   dsimp only
   split
   ·cases fL h fuel (pos+1) ids<;>rfl
   ·cases oS h ids k.rows with
    |none=>rfl
    |some p=>obtain ⟨rows,ids1⟩:=p;dsimp only;cases fL h fuel (pos+1) ids1<;>rfl
theorem b3T (fuel pos:Nat) (ids:List Nat):lbN h fuel pos ids none=some ([],ids):=rfl
theorem b2M (fuel pos:Nat) (ids:List Nat) (b:Nat):lbN h fuel pos ids (some b)=lb0 h fuel pos ids (h b):=rfl
theorem c3o (fuel pos:Nat) (ids:List Nat) (m:Nat) (r:List (List V)):lb0 h fuel pos ids (some ⟨m,false,r⟩)=lb2 ⟨m,false,r⟩ (fL h fuel (pos+1) ids):=rfl
theorem c5e (fuel pos:Nat) (ids:List Nat) (m:Nat) (row:List V):lb0 h fuel pos ids (some ⟨m,true,[row]⟩)=lb1 h fuel pos m (rj h ids row):=by
 simp only [lb0,oS,lb1]
 cases rj h ids row with
 |none=>rfl
 |some p=>obtain ⟨a,b⟩:=p;rfl
theorem b6E (fuel pos m:Nat) (row:List V) (ids1:List Nat):lb1 h fuel pos m (some (row,ids1))=lb2 ⟨m,true,[row]⟩ (fL h fuel (pos+1) ids1):=rfl
theorem b4W (k:Blk) (r:List Blk) (ids:List Nat):lb2 k (some (r,ids))=some (k::r,ids):=rfl
theorem c7B (n:Nat):gc [] [] n=[]:=rfl
theorem c7c (k:Blk) (r:List Blk) (n:Nat):gc [] (k::r) n=n::gc [] r (n+1000000):=rfl
theorem c7t (i:Nat) (ids:List Nat) (k:Blk) (r:List Blk) (n:Nat):gc (i::ids) (k::r) n=gc ids r n:=rfl
def cpw (fl:Bool) (new:Nat) (ids bor:List Nat) (r:V) (bs:List Blk) (ns:List Nat):Option (V×Upd):=some (Bo (ids++ns) r,og (ids++ns) (bs.map (ki (ids++ns)))++br (bor.isEmpty||(sQ r&&bs.all (rb fl))) [] (iZ bor))
theorem c4s (fl:Bool) (new:Nat) (ids bor:List Nat) (r:V) (bs:List Blk) (ns:List Nat):cpw fl new ids bor r bs ns=some (Bo (ids++ns) r,og (ids++ns) (bs.map (ki (ids++ns)))++br (bor.isEmpty||(sQ r&&bs.all (rb fl))) [] (iZ bor)):=rfl
theorem a4v (fl ro:Bool) (new:Nat) (ids bor:List Nat) (r:V) (bs:List Blk):Np fl ro h new ids bor (some (r,bs))=
 roW ro h (br (Nat.ble ids.length bs.length&&(gc ids bs new).all (fun b=>(h b).isNone)) (cpw fl new ids bor r bs (gc ids bs new)) none):=by
 refine congrArg (roW ro h) ?_
 simp only [yl,cpw,KD]
 generalize (gc ids bs new).all (fun b=>(h b).isNone)=c3
 generalize (bor.isEmpty||(sQ r&&bs.all (rb fl)))=c4
 by_cases a:ids.length<=bs.length
 ·rw [al a];cases c3<;>cases c4<;>simp [a,br]
 ·rw [ag a];cases c3<;>cases c4<;>simp [a,br]
theorem a8u (ids:List Nat) (vs:List V):Bo ids (.tup vs)= .tup (vs.map (mG ids)):=rfl
theorem a8n (ids:List Nat) (vs:List V):Bo ids (.agg vs)= .agg (vs.map (unV ids)):=rfl
theorem a7X (ids:List Nat) (v:Value):Bo ids (.lit v)= .lit v:=rfl
theorem a8L (ids:List Nat) (m:Nat) (r:List (List V)):Bo ids (.imm m r)= .imm m r:=rfl
theorem a30 (ids:List Nat):Bo ids .undef= .undef:=rfl
theorem a8f (ids:List Nat) (b i o m:Nat):Bo ids (.ptr b i o m)= .ptr (ids.getD b 0) i o m:=rfl
theorem b0T (ids:List Nat) (b s q:Nat):Bo ids (.sl b s q)= .sl (ids.getD b 0) s q:=rfl
theorem b0Z (ids:List Nat) (vs:List V):mG ids (.agg vs)= .agg (vs.map (unV ids)):=rfl
theorem b09 (ids:List Nat) (v:Value):mG ids (.lit v)= .lit v:=rfl
theorem b0l (ids:List Nat) (m:Nat) (r:List (List V)):mG ids (.imm m r)= .imm m r:=rfl
theorem a83 (ids:List Nat) (b i o m:Nat):mG ids (.ptr b i o m)= .ptr (ids.getD b 0) i o m:=rfl
theorem b0X (ids:List Nat) (b s q:Nat):mG ids (.sl b s q)= .sl (ids.getD b 0) s q:=rfl
theorem b9r (ids:List Nat) (v:Value):unV ids (.lit v)= .lit v:=rfl
theorem c5v (ids:List Nat) (f:FuncId) (cs:List V):unV ids (.fn f cs)= .fn f cs:=rfl
theorem b2s (ids:List Nat) (f:FuncId) (cs:List V):mG ids (.fn f cs)= .fn f (cs.map (unV ids)):=rfl
theorem b8f (ids:List Nat) (m:Nat) (r:List (List V)):unV ids (.imm m r)= .imm m r:=rfl
theorem b8s (ids:List Nat) (b i o m:Nat):unV ids (.ptr b i o m)= .ptr (ids.getD b 0) i o m:=rfl
theorem c1D (ids:List Nat) (b s q:Nat):unV ids (.sl b s q)= .sl (ids.getD b 0) s q:=rfl
theorem b5B (ids:List Nat) (m:Nat) (r:List (List V)):ki ids ⟨m,false,r⟩=⟨m,false,r⟩:=rfl
theorem a7Y (ids:List Nat) (m:Nat) (row:List V):ki ids ⟨m,true,[row]⟩=⟨m,true,[row.map (mG ids)]⟩:=rfl
theorem c3s (v:Value):sQ (.lit v)=true:=rfl
theorem b5x:sQ .undef=true:=rfl
theorem c3q (m:Nat) (r:List (List V)):sQ (.imm m r)=false:=rfl
theorem c48 (vs:List V):sQ (.agg vs)=vs.all pC:=rfl
theorem c5y (vs:List V):sQ (.tup vs)=vs.all Et:=rfl
theorem c3y (b i o m:Nat):sQ (.ptr b i o m)=true:=rfl
theorem c4k (b s q:Nat):sQ (.sl b s q)=true:=rfl
theorem b9J (v:Value):Et (.lit v)=true:=rfl
theorem b9P (m:Nat) (r:List (List V)):Et (.imm m r)=false:=rfl
theorem b8z (vs:List V):Et (.agg vs)=vs.all pC:=rfl
theorem c1J (b i o m:Nat):Et (.ptr b i o m)=true:=rfl
theorem b9A (b s q:Nat):Et (.sl b s q)=true:=rfl
theorem b8k (v:Value):pC (.lit v)=true:=rfl
theorem c5B (f:FuncId) (cs:List V):pC (.fn f cs)=false:=rfl
theorem c2L (f:FuncId) (cs:List V):Et (.fn f cs)=false:=rfl
theorem c73 (f:FuncId) (cs:List V):sQ (.fn f cs)=false:=rfl
theorem c0H (m:Nat) (r:List (List V)):pC (.imm m r)=false:=rfl
theorem b8g (b i o m:Nat):pC (.ptr b i o m)=true:=rfl
theorem c0I (b s q:Nat):pC (.sl b s q)=true:=rfl
theorem c3Z (m:Nat) (r:List (List V)):rb false ⟨m,false,r⟩=false:=rfl
theorem a1g {α:Type} {e:En α} (a: ∀x,(e.enc x).all pC=true) (m:Nat) (l:List α):rb true ⟨m,false,rws e l⟩=true:=by
 simp only [rb,Bool.true_or,aN,rws,List.all_map,aB]
 exact fun x _=>a x
theorem c72 (m:Nat) (l:List Int):rb true ⟨m,false,rws eI l⟩=true:=a1g (fun _=>rfl) m l
theorem c6L (m:Nat) (l:List Bool):rb true ⟨m,false,rws eB l⟩=true:=a1g (fun _=>rfl) m l
theorem c7Q (m:Nat) (l:List UInt8):rb true ⟨m,false,rws eU8 l⟩=true:=a1g (fun _=>rfl) m l
theorem b7J (m:Nat) (l:List Int):rb true ⟨m,false,rws a2M l⟩=true:=a1g (fun _=>rfl) m l
theorem c6D (m:Nat) (l:List (List UInt8)):rb true ⟨m,false,rws eS l⟩=true:=a1g (fun _=>rfl) m l
theorem c5m (fl:Bool) (m:Nat) (row:List V):rb fl ⟨m,true,[row]⟩=row.all pC:=by simp [rb]
def b9N (raw:Bool) (m:Nat):Option (List V)->Option (List Blk)->Option (V×List Blk)
 |some vs',some bs=>br (Nat.ble m 1000) (some ((YE vs').czR,br raw bs (bs.map Blk.cz))) none
 |_,_=>none
def a2s (keep raw:Bool) (m:Nat) (h:b8):Option (List V)->Option (V×List Blk)
 |some vs=>b9N raw m (wA h m (br keep (ml raw h m vs) []) vs) (vC h m (br keep (ml raw h m vs) []) (List.range m++(br keep (ml raw h m vs) [])))
 |none=>none
theorem a6Y (nt:Nat) (body:aQ) (res:List LI) (keep raw:Bool) (m:Nat) (st:St) (x:bR) (a:x= .ret\/x= .normal):a5I ⟨nt,body,res,keep,raw⟩ m x st=a2s keep raw m st.heap (m8 st res):=by
 have b: ∀vs:List V,(if keep=true then ml raw st.heap m vs else [])=br keep (ml raw st.heap m vs) []:=fun vs=>by cases keep<;>rfl
 have:a5I ⟨nt,body,res,keep,raw⟩ m x st=a5I ⟨nt,body,res,keep,raw⟩ m .ret st:=by rcases a with rfl|rfl<;>rfl
 rw [this]
 simp only [a5I,kK,a2s,b9N,a1v,b,KD]
 cases m8 st res with
 |none=>rfl
 |some vs=>
  dsimp only
  cases wA st.heap m (br keep (ml raw st.heap m vs) []) vs with
  |none=>rfl
  |some vs'=>
   cases vC st.heap m (br keep (ml raw st.heap m vs) []) (List.range m++(br keep (ml raw st.heap m vs) [])) with
   |none=>rfl
   |some bs=>by_cases c:m<=1000<;>cases raw<;>simp [c,br]
theorem b5O (nt:Nat) (body:aQ) (res:List LI) (keep raw:Bool) (m:Nat) (st:St):a5I ⟨nt,body,res,keep,raw⟩ m .ret st=a2s keep raw m st.heap (m8 st res):=a6Y _ _ _ _ _ _ _ _ (.inl rfl)
theorem a35 (nt:Nat) (body:aQ) (res:List LI) (keep raw:Bool) (m:Nat) (st:St):a5I ⟨nt,body,res,keep,raw⟩ m .normal st=a2s keep raw m st.heap (m8 st res):=a6Y _ _ _ _ _ _ _ _ (.inr rfl)
theorem a87 (keep raw:Bool) (m:Nat) (vs:List V):a2s keep raw m h (some vs)=b9N raw m (wA h m (br keep (ml raw h m vs) []) vs) (vC h m (br keep (ml raw h m vs) []) (List.range m++(br keep (ml raw h m vs) []))):=rfl
theorem a88 (raw:Bool) (m:Nat) (vs:List V) (bs:List Blk):b9N raw m (some vs) (some bs)=br (Nat.ble m 1000) (some ((YE vs).czR,br raw bs (bs.map Blk.cz))) none:=rfl
def rs1:Option V->Option (List V)->Option (List V)
 |some v,some vs=>some (v::vs)
 |_,_=>none
theorem b3V (st:St):m8 st []=some []:=rfl
theorem a85 (st:St) (r:LI) (rs:List LI):m8 st (r::rs)=rs1 (IS st r) (m8 st rs):=by
 simp only [m8,rs1]
 cases IS st r<;>cases m8 st rs<;>rfl
theorem b1z (v:V) (vs:List V):rs1 (some v) (some vs)=some (v::vs):=rfl
theorem b9m (st:St) (t:Nat):IS st (.tmp t)=some (st.get t):=rfl
theorem b29 (st:St) (t:Nat) (g:Option Nat):IS st (.cell t g)=y4 g st.heap (st.get t):=rfl
def c8S:Option V->Option (List V)->Option (List V)
 |some v,some vs=>some (v::vs)
 |_,_=>none
theorem b0S (m:Nat) (kp:List Nat):wA h m kp []=some []:=rfl
theorem a5O (m:Nat) (kp:List Nat) (v:V) (r:List V):wA h m kp (v::r)=rs1 (ES h m kp v) (wA h m kp r):=by
 simp only [wA,rs1]
 cases ES h m kp v<;>cases wA h m kp r<;>rfl
theorem b1e (m:Nat) (kp:List Nat):wF h m kp []=some []:=rfl
theorem QM (m:Nat) (kp:List Nat) (v:V) (r:List V):wF h m kp (v::r)=rs1 (pK h m kp v) (wF h m kp r):=by
 simp only [wF,rs1]
 cases pK h m kp v<;>cases wF h m kp r<;>rfl
def fag:Option (List V)->Option V
 |some cs=>some (.agg cs)
 |none=>none
theorem b1T (m:Nat) (kp:List Nat) (cs:List V):ES h m kp (.agg cs)=fag (wF h m kp cs):=by
 simp only [ES,fag]
 cases wF h m kp cs<;>rfl
theorem b4f (cs:List V):fag (some cs)=some (.agg cs):=rfl
theorem b3s (m:Nat) (kp:List Nat) (v:Value):ES h m kp (.lit v)=some (.lit v):=rfl
theorem b1w (m:Nat) (kp:List Nat) (q:Nat) (r:List (List V)):ES h m kp (.imm q r)=some (.imm q r):=rfl
theorem a4Q (m:Nat) (kp:List Nat):ES h m kp .undef=some .undef:=rfl
theorem b8E (m:Nat) (kp:List Nat) (f:FuncId):ES h m kp (.fn f [])=some (.fn f []):=rfl
theorem b45 (m:Nat) (kp:List Nat) (v:Value):pK h m kp (.lit v)=some (.lit v):=rfl
theorem b4J (m:Nat) (kp:List Nat) (q:Nat) (r:List (List V)):pK h m kp (.imm q r)=some (.imm q r):=rfl
theorem b9R (m:Nat) (kp:List Nat) (f:FuncId):pK h m kp (.fn f [])=some (.fn f []):=rfl
theorem a5c (m:Nat) (kp:List Nat):pK h m kp .undef=some .undef:=rfl
def c0S:Option (V×List Nat)->Option V
 |some (v,_)=>some v
 |none=>none
def fcO (h:b8) (m:Nat) (kp:List Nat) (b s q:Nat):Option V:=br (Nat.blt b m) (some (.sl b s q)) (br (kp.contains b) (some (.sl (m+kL b kp) s q)) (c0S (pi h (.sl b s q))))
theorem Sf (m:Nat) (kp:List Nat) (b s q:Nat):pK h m kp (.sl b s q)=fcO h m kp b s q:=by
 simp only [pK,fcO,EU,c0S]
 by_cases a:b<m
 ·simp [a,br]
 ·by_cases c:b∈kp
  ·simp [a,c,br]
  ·have:kp.contains b=false:=by simpa using c
   simp only [a,c,this,if_false,decide_false,ba]
   cases pi h (.sl b s q)<;>rfl
theorem b4w (m:Nat) (kp:List Nat) (b s q:Nat):ES h m kp (.sl b s q)=fcO h m kp b s q:=Sf m kp b s q
theorem c4b (m:Nat) (kp:List Nat) (b s q:Nat):fcO h m kp b s q=br (Nat.blt b m) (some (.sl b s q)) (br (kp.contains b) (some (.sl (m+kL b kp) s q)) (c0S (pi h (.sl b s q)))):=rfl
theorem a7T (v:V) (bs:List Nat):c0S (some (v,bs))=some v:=rfl
def fcP (m:Nat) (kp:List Nat) (b i o q:Nat):Option V:=br (Nat.blt b m) (some (.ptr b i o q)) (br (kp.contains b) (some (.ptr (m+kL b kp) i o q)) none)
theorem PJ (m:Nat) (kp:List Nat) (b i o q:Nat):pK h m kp (.ptr b i o q)=fcP m kp b i o q:=by
 simp only [pK,fcP,EU]
 by_cases a:b<m
 ·simp [a,br]
 ·by_cases c:b∈kp
  ·simp [a,c,br]
  ·have:kp.contains b=false:=by simpa using c
   simp [a,c,this,br]
theorem b6N (m:Nat) (kp:List Nat) (b i o q:Nat):ES h m kp (.ptr b i o q)=fcP m kp b i o q:=PJ (h:=h) m kp b i o q
theorem c5D (m:Nat) (kp:List Nat) (b i o q:Nat):fcP m kp b i o q=br (Nat.blt b m) (some (.ptr b i o q)) (br (kp.contains b) (some (.ptr (m+kL b kp) i o q)) none):=rfl
def fb2:Option Blk->Option (List Blk)->Option (List Blk)
 |some k,some r=>some (k::r)
 |_,_=>none
def fb1 (h:b8) (m:Nat) (kp r:List Nat):Option Blk->Option (List Blk)
 |some k=>fb2 (SP h m kp k) (vC h m kp r)
 |none=>none
theorem b0v (m:Nat) (kp:List Nat):vC h m kp []=some []:=rfl
theorem a4s (m:Nat) (kp:List Nat) (b:Nat) (r:List Nat):vC h m kp (b::r)=fb1 h m kp r (h b):=by
 simp only [vC,fb1,fb2]
 cases h b with
 |none=>rfl
 |some k=>dsimp only;cases SP h m kp k<;>cases vC h m kp r<;>rfl
theorem b6h (m:Nat) (kp r:List Nat) (k:Blk):fb1 h m kp r (some k)=fb2 (SP h m kp k) (vC h m kp r):=rfl
theorem b28 (k:Blk) (r:List Blk):fb2 (some k) (some r)=some (k::r):=rfl
theorem c0Y (m:Nat) (kp:List Nat) (q:Nat) (r:List (List V)):SP h m kp ⟨q,false,r⟩=some ⟨q,false,r⟩:=rfl
def fbO (q:Nat):Option (List V)->Option Blk
 |some row=>some ⟨q,true,[row]⟩
 |none=>none
theorem b0F (m:Nat) (kp:List Nat):zl h m kp []=some []:=rfl
theorem yf (m:Nat) (kp:List Nat) (v:V) (r:List V):zl h m kp (v::r)=rs1 (Hw h m kp v) (zl h m kp r):=by
 simp only [zl,rs1]
 cases Hw h m kp v<;>cases zl h m kp r<;>rfl
def fnR (f:FuncId):Option (List V)->Option V
 |some cs=>some (.fn f cs)
 |none=>none
theorem b3u (f:FuncId) (cs:List V):fnR f (some cs)=some (.fn f cs):=rfl
theorem b30 (m:Nat) (kp:List Nat) (f:FuncId):Hw h m kp (.fn f [])=some (.fn f []):=rfl
theorem b8y (m:Nat) (kp:List Nat) (f:FuncId) (c:V) (cs:List V):Hw h m kp (.fn f (c::cs))=fnR f (wF h m kp (c::cs)):=by
 simp only [Hw,fnR]
 cases wF h m kp (c::cs)<;>rfl
theorem b5w (m:Nat) (kp:List Nat) (v:Value):Hw h m kp (.lit v)=some (.lit v):=rfl
theorem b6n (m:Nat) (kp:List Nat) (q:Nat) (r:List (List V)):Hw h m kp (.imm q r)=some (.imm q r):=rfl
theorem a4Y (m:Nat) (kp:List Nat):Hw h m kp .undef=some .undef:=rfl
theorem a9v (m:Nat) (kp:List Nat) (r:List V) (o:Nat):Hw h m kp (.iptr r o)=some (.iptr r o):=rfl
theorem b3C (m:Nat) (kp:List Nat) (b s q:Nat):Hw h m kp (.sl b s q)=fcO h m kp b s q:=Sf m kp b s q
theorem b5D (m:Nat) (kp:List Nat) (b i o q:Nat):Hw h m kp (.ptr b i o q)=fcP m kp b i o q:=PJ (h:=h) m kp b i o q
theorem b9w (m:Nat) (kp:List Nat) (q:Nat) (row:List V):SP h m kp ⟨q,true,[row]⟩=fbO q (zl h m kp row):=by
 simp only [SP,uj,fbO]
 cases zl h m kp row<;>rfl
theorem b4s (q:Nat) (row:List V):fbO q (some row)=some ⟨q,true,[row]⟩:=rfl
theorem b46 (t u:Nat) (v:V) (r:List (Nat×V)) (m:List (Nat×Blk)):St.get ⟨(u,v)::r,m⟩ t=if u=t then v else St.get ⟨r,m⟩ t:=by
 simp only [St.get,dP]
 split<;>rfl
theorem c07 (t:Nat) (m:List (Nat×Blk)):St.get ⟨[],m⟩ t= .undef:=rfl
theorem a9Q (b c:Nat) (k:Blk) (r:List (Nat×Blk)) (x:List (Nat×V)):St.heap ⟨x,(c,k)::r⟩ b=if c=b then some k else St.heap ⟨x,r⟩ b:=rfl
theorem b69 (b:Nat) (x:List (Nat×V)):St.heap ⟨x,[]⟩ b=none:=rfl
theorem b1v (x:List (Nat×V)) (m:List (Nat×Blk)) (d:Nat) (v:V):St.put ⟨x,m⟩ (some d) v=⟨(d,v)::x,m⟩:=rfl
theorem b1S (st:St) (v:V):st.put none v=st:=rfl
theorem c4r (x:List (Nat×V)) (m:List (Nat×Blk)) (u:Upd):St.upd ⟨x,m⟩ u=⟨x,a0j m u⟩:=rfl
theorem b7G (st:St):st.upd []=st:=rfl
theorem b36 (m:List (Nat×Blk)):a0j m []=m:=rfl
theorem a8y (m:List (Nat×Blk)) (b:Nat) (k:Blk) (r:Upd):a0j m ((b,k)::r)=a0j (j7 b k m) r:=rfl
theorem b3P {β:Type} (k:Nat) (v:β):j7 k v []=[(k,v)]:=rfl
theorem b1d {β:Type} (k j:Nat) (v u:β) (r:List (Nat×β)):j7 k v ((j,u)::r)=if j=k then (j,v)::r else (j,u)::j7 k v r:=rfl
theorem c8m (st:St) (t:Nat):st.ev (.t t)=st.get t:=rfl
theorem c8n (st:St) (v:Value):st.ev (.c v)= .lit v:=rfl
theorem c8C (st:St) (f:FuncId):st.ev (.f f)= .fn f []:=rfl
theorem c1l (live:List Nat) (x:List (Nat×V)) (m:List (Nat×Blk)):trim live ⟨x,m⟩=⟨live.map fun t=>(t,St.get ⟨x,m⟩ t),m⟩:=rfl
theorem a5p {β:Type} (n:Nat):qM n ([]:List β)=[]:=rfl
theorem a2H {β:Type} (n:Nat) (x:β) (r:List β):qM n (x::r)=(n,x)::qM (n+1) r:=rfl
theorem start_eq (a:List V) (b:List Blk):start a b=⟨qM 0 a,qM 0 b⟩:=rfl
theorem a3D:iJ ev []=[]:=rfl
theorem X5 (a b:Nat) (x:Opd) (r:List (Nat×Nat×Opd)):iJ ev ((a,b,x)::r)=(a,b,ev x)::iJ ev r:=rfl
theorem a8Q (cs:List V):Nk cs []=some cs:=rfl
theorem a6a (cs:List V) (off size:Nat) (v:V) (r:List (Nat×Nat×V)):Nk cs ((off,size,v)::r)=br (Nat.beq v.cells.length size&&Nat.ble (off+size) cs.length&&v.cells.all V.cell) (Nk (cs.take off++(v.cells++cs.drop (off+size))) r) none:=rfl
theorem a9o (m:Nat) (r:List (List V)):Kn m r []=some r:=rfl
theorem a4m (m:Nat) (rows:List (List V)) (i:Nat) (v:V) (r:List (Nat×V)):Kn m rows ((i,v)::r)=br (Nat.beq v.cells.length m&&(Nat.blt i rows.length&&v.cells.all V.cell)) (Kn m (rows.set i v.cells) r) none:=rfl
theorem b04 (cs:List V):(V.agg cs).cells=cs:=rfl
theorem Wd (v:Value):(V.lit v).cells=[.lit v]:=rfl
theorem a95 (m:Nat) (r:List (List V)):(V.imm m r).cells=[.imm m r]:=rfl
theorem a9I (b s q:Nat):(V.sl b s q).cells=[.sl b s q]:=rfl
theorem b02 (b i o m:Nat):(V.ptr b i o m).cells=[.ptr b i o m]:=rfl
theorem a5n (r:List V) (o:Nat):(V.iptr r o).cells=[.iptr r o]:=rfl
theorem b2C (f:FuncId) (cs:List V):(V.fn f cs).cells=[.fn f cs]:=rfl
theorem a0l (k:IntKind) (a:Int):(V.lit (.int k a)).cell=true:=rfl
theorem b0b (a:Bool):(V.lit (.bool a)).cell=true:=rfl
theorem b44 (a:ByteArray):(V.lit (.string a)).cell=true:=rfl
theorem b4e (a:Option Addr) (n m:Nat):(V.lit (.slice a n m)).cell=true:=rfl
theorem b48 (m:Nat) (r:List (List V)):(V.imm m r).cell=true:=rfl
theorem b41 (b s q:Nat):(V.sl b s q).cell=true:=rfl
theorem b2o (b i o m:Nat):(V.ptr b i o m).cell=true:=rfl
theorem a9l (r:List V) (o:Nat):(V.iptr r o).cell=true:=rfl
theorem b7m (f:FuncId) (cs:List V):(V.fn f cs).cell=true:=rfl
theorem b7k (k:IntKind) (a:Int):ci (.int k a)=true:=rfl
theorem b4z (a:Bool):ci (.bool a)=true:=rfl
theorem b7q (a:ByteArray):ci (.string a)=true:=rfl
theorem b9c (a:Option Addr) (n m:Nat):ci (.slice a n m)=true:=rfl
theorem b8p (a:Option Addr):ci (.pointer a)=true:=rfl
theorem b0p:iZ []=[]:=rfl
theorem a4K (b:Nat) (r:List Nat):iZ (b::r)=(b,mO)::iZ r:=rfl
theorem c0P (ids:List Nat):og ids []=[]:=by cases ids<;>rfl
theorem b25 (i:Nat) (ids:List Nat) (k:Blk) (r:List Blk):og (i::ids) (k::r)=(i,k)::og ids r:=rfl
theorem b3X (b x:Nat) (r:List Nat):kL b (x::r)=if x=b then 0 else kL b r+1:=rfl
theorem a4g (b:Nat):gi [] b=[b]:=rfl
theorem a8R (ids:List Nat) (b:Nat):gi ids b=br (ids.contains b) ids (ids++[b]):=by
 unfold gi
 by_cases h:b∈ids<;>simp [h,br]
theorem c3X:List.range 1=[0]:=rfl
theorem c68:List.range 2=[0,1]:=rfl
theorem c4c:List.range 3=[0,1,2]:=rfl
theorem c2t:List.range 4=[0,1,2,3]:=rfl
theorem b61 (v:V):YE [v]=v:=rfl
theorem b6y:YE []= .tup []:=rfl
theorem b6A (a b:V) (r:List V):YE (a::b::r)= .tup (a::b::r):=rfl
theorem a4x (o:List Nat) (a:List V):ul o a=br (o.contains 1000) a (a.map V.czA):=by
 unfold ul;cases o.contains 1000<;>rfl
theorem a68 (o:List Nat) (a:List Blk):tY o a=br (o.contains 1000) a (a.map Blk.cz):=by
 unfold tY;cases o.contains 1000<;>rfl
theorem a7W (a:Nat) (r:List Nat):(a::r).getD 0 0=a:=rfl
theorem b0O (a n:Nat) (r:List Nat):(a::r).getD (n+1) 0=r.getD n 0:=rfl
def a4V (st:St) (bs:List Nat):St:={ e:=RZ (fzA st.heap bs) st.e,m:=fzM st.heap bs st.m }
theorem b3Z (st:St) (bs:List Nat):de st (.close bs)=br (bs.all (fun b=>Nat.ble 1000 b)) (some (a4V st bs)) none:=by
 simp only [de,a4V,KD]
 cases bs.all (fun b=>decide (1000<=b))<;>rfl
theorem a8e (x:List (Nat×V)) (m:List (Nat×Blk)) (bs:List Nat):a4V ⟨x,m⟩ bs=⟨RZ (fzA (St.heap ⟨x,m⟩) bs) x,fzM (St.heap ⟨x,m⟩) bs m⟩:=rfl
theorem b1A (g:V->V):RZ g []=[]:=rfl
theorem a9k (g:V->V) (t:Nat) (v:V) (r:List (Nat×V)):RZ g ((t,v)::r)=(t,g v)::RZ g r:=rfl
variable {bs:List Nat}
theorem c2x (v:Value):fzA h bs (.lit v)= .lit v:=rfl
theorem c3I (m:Nat) (r:List (List V)):fzA h bs (.imm m r)= .imm m r:=rfl
theorem c1E (r:List V) (o:Nat):fzA h bs (.iptr r o)= .iptr r o:=rfl
theorem b4V:fzA h bs .undef= .undef:=rfl
theorem c4e (vs:List V):fzA h bs (.tup vs)= .undef:=rfl
def fzO:Option (V×List Nat)->V
 |some (v,_)=>v.cz
 |none=> .undef
theorem b66 (b s q:Nat):fzA h bs (.sl b s q)=br (bs.contains b) (fzO (pi h (.sl b s q))) (.sl b s q):=by
 simp only [fzA,fzC,fzO]
 by_cases a:b∈bs
 ·simp [a,br];cases pi h (.sl b s q)<;>rfl
 ·simp [a,br]
theorem b1L (b i o m:Nat):fzA h bs (.ptr b i o m)=br (bs.contains b) .undef (.ptr b i o m):=by
 simp only [fzA,fzC]
 by_cases a:b∈bs<;>simp [a,br]
theorem b5I (v:V) (b:List Nat):fzO (some (v,b))=v.cz:=rfl
theorem c5g (cs:List V):fzA h bs (.agg cs)=br ((cs.map (fzC h bs)).all V.cell) (.agg (cs.map (fzC h bs))) .undef:=by
 simp only [fzA]
 cases (cs.map (fzC h bs)).all V.cell<;>rfl
theorem c2m (f:FuncId) (cs:List V):fzA h bs (.fn f cs)=br (cs.all okC&& !(cs.flatMap rF).any (fun b=>bs.contains b)) (.fn f cs) .undef:=by
 simp only [fzA,fzC]
 have:(fun b=>decide (b∈bs))=fun b=>bs.contains b:=by funext b;simp [pp]
 rw [this]
 cases (cs.all okC&& !(cs.flatMap rF).any (fun b=>bs.contains b))<;>rfl
theorem c1n (v:Value):fzC h bs (.lit v)= .lit v:=rfl
theorem c0s (m:Nat) (r:List (List V)):fzC h bs (.imm m r)= .imm m r:=rfl
theorem c3a (f:FuncId) (cs:List V):fzC h bs (.fn f cs)=br (cs.all okC&& !(cs.flatMap rF).any (fun b=>bs.contains b)) (.fn f cs) .undef:=c2m (h:=h) f cs
theorem c1b (b i o m:Nat):okC (.ptr b i o m)=true:=rfl
theorem b9S (b s q:Nat):okC (.sl b s q)=true:=rfl
theorem b82 (v:Value):okC (.lit v)=true:=rfl
theorem c0r (m:Nat) (r:List (List V)):okC (.imm m r)=true:=rfl
theorem c6k (f:FuncId):okC (.fn f [])=true:=rfl
theorem b4n (r:List V) (o:Nat):fzC h bs (.iptr r o)= .iptr r o:=rfl
theorem b9K (b s q:Nat):fzC h bs (.sl b s q)=br (bs.contains b) (fzO (pi h (.sl b s q))) (.sl b s q):=b66 b s q
theorem b8i (b i o m:Nat):fzC h bs (.ptr b i o m)=br (bs.contains b) .undef (.ptr b i o m):=b1L (h:=h) b i o m
theorem c1o:fzM h bs []=[]:=rfl
def fzK (h:b8) (bs:List Nat) (k:Blk):Blk:=if k.op then (if (k.rows.map (·.map (fzC h bs))).all (·.all V.cell) then { k with rows:=k.rows.map (·.map (fzC h bs)) } else mO) else k
theorem b6M (b:Nat) (k:Blk) (r:List (Nat×Blk)):fzM h bs ((b,k)::r)=br (bs.contains b) (fzM h bs r) ((b,fzK h bs k)::fzM h bs r):=by
 simp only [fzM,fzK]
 by_cases a:b∈bs<;>simp [a,br]
theorem c4J (m:Nat) (r:List (List V)):fzK h bs ⟨m,false,r⟩=⟨m,false,r⟩:=rfl
theorem c4Q (m:Nat) (row:List V):fzK h bs ⟨m,true,[row]⟩=br ((row.map (fzC h bs)).all V.cell) ⟨m,true,[row.map (fzC h bs)]⟩ mO:=by
 simp only [fzK,aP,dM,cj,oC,fx,if_true]
 cases (row.map (fzC h bs)).all V.cell<;>rfl
section
variable {R:Type} {T:Tab} {ow:ec} {k:bR->St->Option R} {d:Option Nat} {n:Nat} {ss:List cn} {live:List Nat} {K:List Fr} {st:St} {base i:Nat} {deps:List (List Nat)} {rs:List Rec} {fp:List Nat} {r:R}
theorem y5 {fl ro:Bool} {h:b8} {new:Nat} {ids bor:List Nat} {x:Option (V×List Blk)} {p:V×List Blk} (a:x=some p) (b:aft T ow k d n ss live K st (Np fl ro h new ids bor (some p))=some r):aft T ow k d n ss live K st (Np fl ro h new ids bor x)=some r:=by
 rw [a];exact b
theorem oU {fl ro:Bool} {h:b8} {new:Nat} {ids bor:List Nat} {x:Option (V×List Blk)} {p:V×List Blk} (a:x=some p) (b:Om T ow k d base i ss deps live rs K st fp (Np fl ro h new ids bor (some p))=some r):Om T ow k d base i ss deps live rs K st fp (Np fl ro h new ids bor x)=some r:=by
 rw [a];exact b
theorem c7m (b:Int):nn b=decide (0<=b):=rfl
theorem c7g (b:Int):nz b=decide (b≠0):=rfl
theorem c55 (i:Int) (n:Nat):inb i n=(decide (0<=i)&&decide (i.toNat<n)):=rfl
end
end
section
variable {ow:ec} {ev:Opd->V} {h:b8} {α:Type} {e:En α} {l:List α}
theorem c7S (x:Opd):im ow (.mv x) ev h=[]:=rfl
theorem c7K (x:Opd):(AOp.mv x).opds=[x]:=rfl
theorem b8I (c a b:Opd):im ow (.pick c a b) ev h=((AOp.pick c a b).opds.map ev).flatMap gN:=rfl
theorem b9q (c a b:Opd):(AOp.pick c a b).opds=[c,a,b]:=rfl
theorem b3b (z:List Value):im ow (.alloc z) ev h=((AOp.alloc z).opds.map ev).flatMap gN:=rfl
theorem b4j (z:List Value):(AOp.alloc z).opds=[]:=rfl
theorem c54 (m:Nat) (x:Opd):im ow (.box m x) ev h=((AOp.box m x).opds.map ev).flatMap gN:=rfl
theorem c67 (m:Nat) (x:Opd):(AOp.box m x).opds=[x]:=rfl
theorem b1p (z:List Value) (ps:List (Nat×Nat×Opd)):im ow (.build z ps) ev h=((AOp.build z ps).opds.map ev).flatMap gN:=rfl
theorem b6K (z:List Value) (ps:List (Nat×Nat×Opd)):(AOp.build z ps).opds=ps.map (·.2.2):=rfl
theorem Uq (m:Nat) (z:List Value) (l:Nat) (ps:List (Nat×Opd)):im ow (.buildSlice m z l ps) ev h=((AOp.buildSlice m z l ps).opds.map ev).flatMap gN:=rfl
theorem Tq (m:Nat) (z:List Value) (l:Nat) (ps:List (Nat×Opd)):(AOp.buildSlice m z l ps).opds=ps.map (·.2):=rfl
theorem c0G (g:Option Nat) (x:Opd):im ow (.load g x) ev h=((AOp.load g x).opds.map ev).flatMap gN:=rfl
theorem b8M (g:Option Nat) (x:Opd):(AOp.load g x).opds=[x]:=rfl
theorem b5p (m:Nat) (x y:Opd):im ow (.store m x y) ev h=((AOp.store m x y).opds.map ev).flatMap gN:=rfl
theorem b34 (m:Nat) (x y:Opd):(AOp.store m x y).opds=[x,y]:=rfl
theorem a2k (x:Opd):im ow (.nilCheck x) ev h=((AOp.nilCheck x).opds.map ev).flatMap gN:=rfl
theorem a1A (x:Opd):(AOp.nilCheck x).opds=[x]:=rfl
theorem c2K (op:BinOp) (x y:Opd):im ow (.bin op x y) ev h=((AOp.bin op x y).opds.map ev).flatMap gN:=rfl
theorem c5O (op:BinOp) (x y:Opd):(AOp.bin op x y).opds=[x,y]:=rfl
theorem b3U (b:Bool) (ks:List Bool) (x y:Opd):im ow (.eqAgg b ks x y) ev h=((AOp.eqAgg b ks x y).opds.map ev).flatMap gN:=rfl
theorem b3e (b:Bool) (ks:List Bool) (x y:Opd):(AOp.eqAgg b ks x y).opds=[x,y]:=rfl
theorem c3z (b:Bool) (x y:Opd):im ow (.beq b x y) ev h=((AOp.beq b x y).opds.map ev).flatMap gN:=rfl
theorem c6i (b:Bool) (x y:Opd):(AOp.beq b x y).opds=[x,y]:=rfl
theorem c6I (op:UnOp) (x:Opd):im ow (.un op x) ev h=((AOp.un op x).opds.map ev).flatMap gN:=rfl
theorem c87 (op:UnOp) (x:Opd):(AOp.un op x).opds=[x]:=rfl
theorem b5b (k:IntKind) (x:Opd):im ow (.toInt k x) ev h=((AOp.toInt k x).opds.map ev).flatMap gN:=rfl
theorem b6w (k:IntKind) (x:Opd):(AOp.toInt k x).opds=[x]:=rfl
theorem b8Y (x:Opd):im ow (.same x) ev h=((AOp.same x).opds.map ev).flatMap gN:=rfl
theorem b8Q (x:Opd):(AOp.same x).opds=[x]:=rfl
theorem a5u (x:Opd):im ow (.toBytes x) ev h=((AOp.toBytes x).opds.map ev).flatMap gN:=rfl
theorem a5h (x:Opd):(AOp.toBytes x).opds=[x]:=rfl
theorem b47 (x:Opd):im ow (.toStr x) ev h=((AOp.toStr x).opds.map ev).flatMap gN:=rfl
theorem b3y (x:Opd):(AOp.toStr x).opds=[x]:=rfl
theorem a0q (f:FuncId) (cs:List Opd):im ow (.makeFunc f cs) ev h=[]:=rfl
theorem a0Q (f:FuncId) (cs:List Opd):(AOp.makeFunc f cs).opds=cs:=rfl
theorem WJ (m b:Nat) (z:List Value) (x y:Opd):im ow (.makeSlice m b z x y) ev h=((AOp.makeSlice m b z x y).opds.map ev).flatMap gN:=rfl
theorem Yh (m b:Nat) (z:List Value) (x y:Opd):(AOp.makeSlice m b z x y).opds=[x,y]:=rfl
theorem a1t (x:Opd) (lo hi:Option Opd):im ow (.sliceStr x lo hi) ev h=((AOp.sliceStr x lo hi).opds.map ev).flatMap gN:=rfl
theorem a1H (x:Opd) (lo hi:Option Opd):(AOp.sliceStr x lo hi).opds=x::(Lj lo++Lj hi):=rfl
theorem b3I (m:Nat) (x:Opd) (lo hi mx:Option Opd):im ow (.slice m x lo hi mx) ev h=((AOp.slice m x lo hi mx).opds.map ev).flatMap gN:=rfl
theorem b43 (m:Nat) (x:Opd) (lo hi mx:Option Opd):(AOp.slice m x lo hi mx).opds=x::(Lj lo++(Lj hi++Lj mx)):=rfl
theorem c3c (m:Nat) (x:Opd):im ow (.off m x) ev h=[]:=rfl
theorem c4Z (m:Nat) (x:Opd):(AOp.off m x).opds=[x]:=rfl
theorem b3A (m:Nat) (g:Option Nat) (x:Opd):im ow (.field m g x) ev h=((AOp.field m g x).opds.map ev).flatMap gN:=rfl
theorem b6C (m:Nat) (g:Option Nat) (x:Opd):(AOp.field m g x).opds=[x]:=rfl
theorem c4f (m:Nat) (x y:Opd):im ow (.idx m x y) ev h=((AOp.idx m x y).opds.map ev).flatMap gN:=rfl
theorem c4S (m:Nat) (x y:Opd):(AOp.idx m x y).opds=[x,y]:=rfl
theorem a8o (m q:Nat) (x y:Opd):im ow (.idxArr m q x y) ev h=((AOp.idxArr m q x y).opds.map ev).flatMap gN:=rfl
theorem a84 (m q:Nat) (x y:Opd):(AOp.idxArr m q x y).opds=[x,y]:=rfl
theorem b5n (x y:Opd):im ow (.ixStr x y) ev h=((AOp.ixStr x y).opds.map ev).flatMap gN:=rfl
theorem b40 (x y:Opd):(AOp.ixStr x y).opds=[x,y]:=rfl
theorem b6P (m q:Nat) (g:Option Nat) (x y:Opd):im ow (.ixAgg m q g x y) ev h=((AOp.ixAgg m q g x y).opds.map ev).flatMap gN:=rfl
theorem b5C (m q:Nat) (g:Option Nat) (x y:Opd):(AOp.ixAgg m q g x y).opds=[x,y]:=rfl
theorem c4p (x:Opd) (i:Nat):im ow (.ext x i) ev h=[]:=rfl
theorem c2A (x:Opd) (i:Nat):(AOp.ext x i).opds=[x]:=rfl
theorem c4C (b:Bool) (x:Opd):im ow (.len b x) ev h=[]:=rfl
theorem c4n (b:Bool) (x:Opd):(AOp.len b x).opds=[x]:=rfl
theorem b07 (m:Nat) (x:Opd):im ow (.lenArr m x) ev h=((AOp.lenArr m x).opds.map ev).flatMap gN:=rfl
theorem a90 (m:Nat) (x:Opd):(AOp.lenArr m x).opds=[x]:=rfl
theorem a6p (m b:Nat) (z:List Value) (x y:Opd):im ow (.appendN m b z x y) ev h=((AOp.appendN m b z x y).opds.map ev).flatMap gN:=rfl
theorem a5U (m b:Nat) (z:List Value) (x y:Opd):(AOp.appendN m b z x y).opds=[x,y]:=rfl
theorem b3H (b:Bool) (x:Opd):im ow (.isNil b x) ev h=((AOp.isNil b x).opds.map ev).flatMap gN:=rfl
theorem b3D (b:Bool) (x:Opd):(AOp.isNil b x).opds=[x]:=rfl
theorem a8K (m b:Nat) (z:List Value) (x y:Opd):im ow (.append m b z x y) ev h=((AOp.append m b z x y).opds.map ev).flatMap gN:=rfl
theorem a7V (m b:Nat) (z:List Value) (x y:Opd):(AOp.append m b z x y).opds=[x,y]:=rfl
theorem b9Q (m:Nat) (x y:Opd):im ow (.copy m x y) ev h=((AOp.copy m x y).opds.map ev).flatMap gN:=rfl
theorem c0k (m:Nat) (x y:Opd):(AOp.copy m x y).opds=[x,y]:=rfl
theorem b8v (x y:Opd):im ow (.max2 x y) ev h=((AOp.max2 x y).opds.map ev).flatMap gN:=rfl
theorem b8W (x y:Opd):(AOp.max2 x y).opds=[x,y]:=rfl
theorem c1K (x y:Opd):im ow (.min2 x y) ev h=((AOp.min2 x y).opds.map ev).flatMap gN:=rfl
theorem b9l (x y:Opd):(AOp.min2 x y).opds=[x,y]:=rfl
theorem a1p (x:Opd):im ow (.bytesOwn x) ev h=((AOp.bytesOwn x).opds.map ev).flatMap gN:=rfl
theorem a0f (x:Opd):(AOp.bytesOwn x).opds=[x]:=rfl
theorem b1s (m:Nat) (x:Opd):im ow (.arrOf m x) ev h=((AOp.arrOf m x).opds.map ev).flatMap gN:=rfl
theorem b1F (m:Nat) (x:Opd):(AOp.arrOf m x).opds=[x]:=rfl
theorem c5T (x:Opd):Lj (some x)=[x]:=rfl
theorem c3p:Lj none=[]:=rfl
def fpC:Option (List V×List Blk×List Nat×List Nat)->List Nat
 |some (_,_,ids,bor)=>ids++bor
 |none=>[]
theorem b4I (a:List V) (b:List Blk) (ids bor:List Nat):fpC (some (a,b,ids,bor))=ids++bor:=rfl
theorem b85 (f:FuncId) (args:List Opd):im ow (.call f args) ev h=fpC (fi ow h f (args.map ev)):=by
 show M4 ow h f (args.map ev)=_
 unfold M4 fpC
 cases fi ow h f (args.map ev)<;>rfl
def fpD (ow:ec) (h:b8) (args:List V):V->List Nat
 | .fn k caps=>fpC (fi ow h k (args++caps))
 |_=>[]
theorem c2s (f:Opd) (args:List Opd):im ow (.dyn f args) ev h=fpD ow h (args.map ev) (ev f):=by
 show (match ev f with
  | .fn k caps=>M4 ow h k (args.map ev++caps)
  |_=>[])=_
 cases ev f<;>first|rfl| (simp only [fpD,M4,fpC];cases fi ow h _ _<;>rfl)
theorem c5G (args:List V) (k:FuncId) (caps:List V):fpD ow h args (.fn k caps)=fpC (fi ow h k (args++caps)):=rfl
theorem b9I (cs:List V):gN (.agg cs)=cs.flatMap rF:=rfl
theorem c5L (f:FuncId) (cs:List V):gN (.fn f cs)=cs.flatMap rF:=rfl
theorem c1M (cs:List V):gN (.tup cs)=cs.flatMap fun| .agg cs=>cs.flatMap rF|v=>rF v:=rfl
theorem b7F (v:Value):gN (.lit v)=[]:=rfl
theorem c0i (m:Nat) (r:List (List V)):gN (.imm m r)=[]:=rfl
theorem b4T (r:List V) (o:Nat):gN (.iptr r o)=[]:=rfl
theorem b86 (b i o m:Nat):gN (.ptr b i o m)=[b]:=rfl
theorem b7H (b s q:Nat):gN (.sl b s q)=[b]:=rfl
theorem a9A:gN .undef=[]:=rfl
theorem c00 (v:Value):rF (.lit v)=[]:=rfl
theorem b7p (m:Nat) (r:List (List V)):rF (.imm m r)=[]:=rfl
theorem b3J (r:List V) (o:Nat):rF (.iptr r o)=[]:=rfl
theorem b8T (b i o m:Nat):rF (.ptr b i o m)=[b]:=rfl
theorem c09 (b s q:Nat):rF (.sl b s q)=[b]:=rfl
theorem c3W (f:FuncId) (cs:List V):rF (.fn f cs)=[]:=rfl
theorem a8i:rF .undef=[]:=rfl
theorem a0d (fp:List Nat) (b:Nat):sj h fp b=br (fp.contains b) (h b) none:=by
 unfold sj
 by_cases a:b∈fp<;>simp [a,br]
theorem b8F (rs:List Rec) (i:Nat) (fp wr:List Nat):a9J rs i fp wr=br (fp.isEmpty&&wr.isEmpty) rs (rs++[⟨i,fp,wr⟩]):=by
 have h:Rec.loud ⟨i,fp,wr⟩= !(fp.isEmpty&&wr.isEmpty):=rfl
 unfold a9J
 cases a:Rec.loud ⟨i,fp,wr⟩ with
 |true=>
  rw [a] at h
  have b:(fp.isEmpty&&wr.isEmpty)=false:=by
   cases c:fp.isEmpty&&wr.isEmpty with
   |false=>rfl
   |true=>rw [c] at h;cases h
  rw [b,ba,List.filter_cons_of_pos a];rfl
 |false=>
  rw [a] at h
  have b:(fp.isEmpty&&wr.isEmpty)=true:=by
   cases c:fp.isEmpty&&wr.isEmpty with
   |true=>rfl
   |false=>rw [c] at h;cases h
  rw [b,cK,List.filter_cons_of_neg (by rw [a];decide)];simp
theorem a9g (deps:List (List Nat)):qE deps []=true:=rfl
theorem a5W (deps:List (List Nat)) (p:Rec) (r:List Rec):qE deps (p::r)=(Fu deps p r&&qE deps r):=rfl
theorem b7D (deps:List (List Nat)) (p:Rec):Fu deps p []=true:=rfl
theorem b5k (deps:List (List Nat)) (i j:Nat) (f g w u:List Nat) (r:List Rec):Fu deps ⟨i,f,w⟩ (⟨j,g,u⟩::r)=((w.isEmpty&&u.isEmpty||(deps.getD j []).contains i|| !(w.any (fun b=>decide (b∈g)||decide (b∈u))||u.any (fun b=>decide (b∈f))))&&Fu deps ⟨i,f,w⟩ r):=rfl
theorem a4q {β:Type} (a d:β) (r:List β):(a::r).getD 0 d=a:=rfl
theorem a59 {β:Type} (a d:β) (n:Nat) (r:List β):(a::r).getD (n+1) d=r.getD n d:=rfl
theorem b9U (m:Nat) (cs:List V) (n:Nat):c2w m cs h n=br (Nat.beq cs.length m&&cs.all V.cell) (frO (h n) n ⟨m,true,[cs]⟩ (.ptr n 0 0 1)) none:=rfl
theorem ak (x:Int) (a: -9223372036854775808<=x) (b:x<9223372036854775808):IntKind.wrap .i64 x=x:=by
 simp [IntKind.wrap,IntKind.bits,IntKind.signed];omega
theorem en (x:Int) (a:0<=x) (b:x<18446744073709551616):IntKind.wrap .u64 x=x:=by
 simp [IntKind.wrap,IntKind.bits,IntKind.signed];omega
theorem b7l (x:Int) (a:0<=x) (b:x<256):IntKind.wrap .u8 x=x:=by
 simp [IntKind.wrap,IntKind.bits,IntKind.signed];omega
theorem LW (n:Nat):(OfNat.ofNat n:Int)=(n:Int):=rfl
theorem b1O (n:Nat) (h:Nat.ble n 9223372036854775807=true):IntKind.wrap .i64 (no_index (OfNat.ofNat n:Int))=OfNat.ofNat n:=by
 have a:=cD h
 rw [LW];exact ak _ (by omega) (by omega)
theorem b0Q (n:Nat) (h:Nat.ble n 18446744073709551615=true):IntKind.wrap .u64 (no_index (OfNat.ofNat n:Int))=OfNat.ofNat n:=by
 have a:=cD h
 rw [LW];exact en _ (by omega) (by omega)
theorem a99 (n:Nat) (h:Nat.ble n 255=true):IntKind.wrap .u8 (no_index (OfNat.ofNat n:Int))=OfNat.ofNat n:=by
 have a:=cD h
 rw [LW];exact b7l _ (by omega) (by omega)
theorem c4I (a b:Nat):(a==b)=decide (a=b):=by
 by_cases h:a=b
 ·subst h;simp
 ·rw [ag h];simpa using h
theorem c5h:List.range 0=[]:=rfl
theorem a4A (m:Nat) (vs:List V):ml true h m vs=E6 m [] ((List.range m).flatMap fun b=>a5B (h b)):=rfl
theorem b0N (m:Nat) (vs:List V):ml false h m vs=E6 m [] (vs.flatMap gN):=rfl
theorem b7o (m:Nat) (row:List V):a5B (some ⟨m,true,[row]⟩)=row.flatMap gN:=by simp [a5B]
theorem b9e (m:Nat) (r:List (List V)):a5B (some ⟨m,false,r⟩)=[]:=rfl
theorem c5I:List.range 5=[0,1,2,3,4]:=rfl
theorem c5H:List.range 6=[0,1,2,3,4,5]:=rfl
theorem c3R:List.range 7=[0,1,2,3,4,5,6]:=rfl
theorem c3t:List.range 8=[0,1,2,3,4,5,6,7]:=rfl
theorem a9y (m:Nat) (acc:List Nat):E6 m acc []=acc:=rfl
theorem a5L (m b:Nat) (acc r:List Nat):E6 m acc (b::r)=E6 m (br (Nat.ble m b) (gi acc b) acc) r:=by
 simp only [E6,KD]
 by_cases h:m<=b<;>simp [h,br]
theorem a8g (n:Nat):Int.toNat (no_index (OfNat.ofNat n:Int))=OfNat.ofNat n:=rfl
end
end Go.AI
