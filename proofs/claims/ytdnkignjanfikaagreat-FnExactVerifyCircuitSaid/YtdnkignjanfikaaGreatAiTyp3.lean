/- Part. -/
import Derived.Test.YtdnkignjanfikaaGreatAiTyp2
set_option linter.unusedVariables false
set_option linter.unusedSimpArgs false
namespace Go.AI
section
variable {C:ce} {ow:FuncId->List Nat} {ev:Opd->V} {h:b8} {n:Nat} {α:Type} {e:En α} {l l2:List α}
def snO (k:Option Blk) (b s q:Nat):Option (V×List Nat):=match k with
 |some k=>if k.op=false/\0<k.esz/\s+q=k.rows.length then some (.imm k.esz (k.rows.drop s),[b]) else none
 |none=>none
theorem b5q (b s q:Nat):pu h (.sl b s q)=snO (h b) b s q:=rfl
theorem c5O (m b q:Nat) (h0:Nat.blt 0 m=true) (a:l.length=q):snO (some ⟨m,false,rws e l⟩) b 0 q=some (.imm m (rws e l),[b]):=by
 rw [EV,aC] at h0
 simp [snO,rws,a,h0]
theorem b25 (k:IntKind) (a:Int):pu h (.lit (.int k a))=some (.lit (.int k a),[]):=rfl
theorem a8E (a:Bool):pu h (.lit (.bool a))=some (.lit (.bool a),[]):=rfl
theorem b2o (a:List UInt8):pu h (S a)=some (S a,[]):=rfl
theorem b3T:pu h (.lit (.slice none 0 0))=some (.lit (.slice none 0 0),[]):=rfl
theorem b3a (m:Nat) (r:List (List V)):pu h (.imm m r)=some (.imm m r,[]):=rfl
def snC:Option (V×List Nat)->Option (List V×List Nat)->Option (List V×List Nat)
 |some (a,bs),some (r,bs')=>some (a.cz::r,bs++bs')
 |_,_=>none
theorem b0u:ng h []=some ([],[]):=rfl
theorem a4q (v:V) (r:List V):ng h (v::r)=snC (pu h v) (ng h r):=by
 simp only [ng,snC]
 cases pu h v<;>cases ng h r<;>rfl
theorem b4p (a:V) (bs:List Nat) (r:List V) (bs':List Nat):snC (some (a,bs)) (some (r,bs'))=some (a.cz::r,bs++bs'):=rfl
theorem c6e (k:IntKind) (a:Int):(V.lit (.int k a)).cz= .lit (.int k a):=rfl
theorem b8q (a:Bool):(V.lit (.bool a)).cz= .lit (.bool a):=rfl
theorem c5p (a:List UInt8):(S a).cz=S a:=rfl
theorem c67 (a:Array Value):(V.lit (.tuple a)).cz= .lit (.tuple a):=rfl
theorem c3o:(V.lit (.slice none 0 0)).cz= .imm 1 []:=rfl
theorem c5B (m:Nat):(V.imm m []).cz= .imm 1 []:=rfl
theorem c6m (b i o m:Nat):(V.ptr b i o m).cz= .ptr b i o m:=rfl
theorem c2o (b s q:Nat):(V.sl b s q).cz= .sl b s q:=rfl
theorem b8B (r:List V) (o:Nat):(V.iptr r o).cz= .iptr r o:=rfl
theorem c8d (f:FuncId) (cs:List V):(V.fn f cs).cz= .fn f cs:=rfl
theorem b2l:V.undef.cz= .undef:=rfl
theorem b90 (cs:List V):(V.agg cs).czA= .agg (cs.map V.cz):=rfl
theorem c1l (k:IntKind) (a:Int):(V.lit (.int k a)).czA= .lit (.int k a):=rfl
theorem b3j (a:Bool):(V.lit (.bool a)).czA= .lit (.bool a):=rfl
theorem b9l (a:List UInt8):(S a).czA=S a:=rfl
theorem b8C:(V.lit (.slice none 0 0)).czA= .imm 1 []:=rfl
theorem b8i (m:Nat) (r:List (List V)):(V.imm m r).czA=(V.imm m r).cz:=rfl
theorem c0g (b i o m:Nat):(V.ptr b i o m).czA= .ptr b i o m:=rfl
theorem b9w (b s q:Nat):(V.sl b s q).czA= .sl b s q:=rfl
theorem b6z (r:List V) (o:Nat):(V.iptr r o).czA= .iptr r o:=rfl
theorem c2V (f:FuncId) (cs:List V):(V.fn f cs).czA= .fn f cs:=rfl
theorem a7V:V.undef.czA= .undef:=rfl
theorem b7h (cs:List V):(V.tup cs).czR= .tup (cs.map V.czA):=rfl
theorem b7a (cs:List V):(V.agg cs).czR= .agg (cs.map V.cz):=rfl
theorem c1v (k:IntKind) (a:Int):(V.lit (.int k a)).czR= .lit (.int k a):=rfl
theorem b4x (a:Bool):(V.lit (.bool a)).czR= .lit (.bool a):=rfl
theorem b7I (a:List UInt8):(S a).czR=S a:=rfl
theorem b7e:(V.lit (.slice none 0 0)).czR= .imm 1 []:=rfl
theorem b9Q (m:Nat) (r:List (List V)):(V.imm m r).czR=(V.imm m r).cz:=rfl
theorem c0P (b i o m:Nat):(V.ptr b i o m).czR= .ptr b i o m:=rfl
theorem b9S (b s q:Nat):(V.sl b s q).czR= .sl b s q:=rfl
theorem b47 (r:List V) (o:Nat):(V.iptr r o).czR= .iptr r o:=rfl
theorem c4P (f:FuncId) (cs:List V):(V.fn f cs).czR= .fn f cs:=rfl
theorem b6n (m:Nat) (row:List V):Blk.cz ⟨m,true,[row]⟩=⟨m,true,[row.map V.cz]⟩:=rfl
theorem b34 (m:Nat) (r:List (List V)):Blk.cz ⟨m,false,r⟩=⟨m,false,r⟩:=rfl
theorem c49 (k:IntKind) (a:Int):zc (.int k a)= .lit (.int k a):=rfl
theorem b8Z (a:Bool):zc (.bool a)= .lit (.bool a):=rfl
theorem c50 (a:List UInt8):zc (.string ⟨⟨a⟩⟩)=S a:=rfl
theorem c4I:zc (.slice none 0 0)= .imm 1 []:=rfl
def stO (k:Option Blk) (b size i o m:Nat) (x:V) (h:b8):Option (V×Upd):=match k with
 |some k=>if k.rows.length=m then (match k.rows[i]? with
  |some row=>
   if k.op then
    (if x.cells.length=size/\o+size<=row.length/\x.cells.all V.cell then
     some (.undef,[(b,{ k with rows:=k.rows.set i (row.take o++(x.cells++row.drop (o+size))) })]) else none)
   else match ng h x.cells with
    |some (cs,bs)=>if cs.length=size/\o+size<=row.length/\ ¬b∈bs then
     some (.undef,iS bs++[(b,{ k with rows:=k.rows.set i (row.take o++(cs++row.drop (o+size))) })]) else none
    |none=>none
  |none=>none) else none
 |none=>none
def a6l (size:Nat) (a x:V) (h:b8):Option (V×Upd):=match a with
 | .ptr b i o m=>stO (h b) b size i o m x h
 |_=>none
theorem c02 (size:Nat) (a x:Opd):aM C ow (.store size a x) ev h n=a6l size (ev a) (ev x) h:=by
 simp only [aM,a6l,stO]
 cases ev a with
 |ptr b i o m=>dsimp only;cases h b<;>rfl
 |_=>rfl
theorem b5y (size b i o m:Nat) (x:V):a6l size (.ptr b i o m) x h=stO (h b) b size i o m x h:=rfl
theorem a3W (m b size o:Nat) (row:List V) (x:V):stO (some ⟨m,true,[row]⟩) b size 0 o 1 x h=
 br (Nat.beq x.cells.length size&&(Nat.ble (o+size) row.length&&x.cells.all V.cell)) (some (.undef,[(b,⟨m,true,[row.take o++(x.cells++row.drop (o+size))]⟩)])) none:=by
 rw [LU,Ki]
 by_cases a:x.cells.length=size<;>by_cases c:o+size<=row.length<;>cases d:x.cells.all V.cell<;>simp [stO,a,c,d,br]
def stT (r:List (List V)) (m b size i o:Nat) (row:List V):Option (List V×List Nat)->Option (V×Upd)
 |some (cs,bs)=>br (Nat.beq cs.length size&&(Nat.ble (o+size) row.length&& !bs.contains b)) (some (.undef,iS bs++[(b,⟨m,false,hZ r i (row.take o++(cs++row.drop (o+size)))⟩)])) none
 |none=>none
theorem a0u (r:List (List V)) (m b size i o:Nat) (row cs:List V) (bs:List Nat):stT r m b size i o row (some (cs,bs))=
 br (Nat.beq cs.length size&&(Nat.ble (o+size) row.length&& !bs.contains b)) (some (.undef,iS bs++[(b,⟨m,false,hZ r i (row.take o++(cs++row.drop (o+size)))⟩)])) none:=rfl
theorem c2L (m b size i o q:Nat) (x:V) (d:l.length=q):stO (some ⟨m,false,rws e l⟩) b size i o q x h=(l[i]?).bind (fun y=>stT (rws e l) m b size i o (e.enc y) (ng h x.cells)):=by
 simp only [stO]
 a:(rws e l).length=q:=by simp [rws,d]
 rw [ae this]
 a c:(rws e l)[i]? =(l[i]?).map e.enc:=by simp [rws]
 rw [c]
 cases k:l[i]? with
 |none=>rfl
 |some y=>
  simp only [ea,nY]
  cases n:ng h x.cells with
  |none=>simp [stT]
  |some p=>
   obtain ⟨cs,bs⟩:=p
   rw [a0u,LU,Ki]
   by_cases f:cs.length=size<;>by_cases c:o+size<=(e.enc y).length<;>by_cases j:b∈bs<;>simp [f,c,j,br,hZ]
def psC (i:Nat):Option (List V×List Nat)->Option (List (Nat×V)×List Nat)->Option (List (Nat×V)×List Nat)
 |some (cs,bs),some (r',bs')=>some ((i,.agg cs)::r',bs++bs')
 |_,_=>none
theorem TB:ew h ev []=some ([],[]):=rfl
theorem Q5 (i:Nat) (x:Opd) (r:List (Nat×Opd)):ew h ev ((i,x)::r)=psC i (ng h (ev x).cells) (ew h ev r):=by
 simp only [ew,psC]
 cases ng h (ev x).cells<;>cases ew h ev r<;>rfl
theorem b6l (i:Nat) (cs:List V) (bs:List Nat) (r:List (Nat×V)) (bs':List Nat):psC i (some (cs,bs)) (some (r,bs'))=some ((i,.agg cs)::r,bs++bs'):=rfl
def Lv (esz:Nat) (rows:List (List V)):List (Nat×V)->Option (List (List V))
 |[]=>some rows
 | (i,v)::r=>br (Nat.beq v.cells.length esz&&(Nat.blt i rows.length&&v.cells.all V.cell)) (Lv esz (rows.set i v.cells) r) none
theorem a1Q (esz:Nat): ∀(ps:List (Nat×V)) (rows:List (List V)),T7 esz rows ps=Lv esz rows ps
 |[],_=>rfl
 | (i,v)::r,rows=>by
   simp only [T7,Lv,LU,EV]
   rw [<-a1Q esz r]
   by_cases a:v.cells.length=esz<;>by_cases b:i<rows.length<;>cases c:v.cells.all V.cell<;>simp [a,b,br]
def a5c (u0:Upd):Option (V×Upd)->Option (V×Upd)
 |some (v,u)=>some (v,u0++u)
 |none=>none
theorem b0i (a u:Upd) (v:V):a5c a (some (v,u))=some (v,a++u):=rfl
theorem b8t (a:Upd) (c:Bool) (x y:Option (V×Upd)):a5c a (br c x y)=br c (a5c a x) (a5c a y):=by cases c<;>rfl
theorem a8D (a:Upd):a5c a none=none:=rfl
def bsR (esz len:Nat) (zero:List Value) (bs:List Nat) (h:b8) (n:Nat):Option (List (List V))->Option (V×Upd)
 |some rows=>br (Nat.beq zero.length esz&&(zero.all ci&&(Nat.ble (len*esz) 16777216&& !bs.contains n))) (a5c (iS bs) (frO (h n) n ⟨esz,false,mkR n rows⟩ (.sl n 0 len))) none
 |none=>none
def bsS (esz len:Nat) (zero:List Value) (h:b8) (n:Nat):Option (List (Nat×V)×List Nat)->Option (V×Upd)
 |some (ps,bs)=>bsR esz len zero bs h n (Lv esz (List.replicate len (zero.map zc)) ps)
 |none=>none
theorem Yn (esz len:Nat) (zero:List Value) (ps:List (Nat×Opd)):aM C ow (.buildSlice esz zero len ps) ev h n=bsS esz len zero h n (ew h ev ps):=by
 simp only [aM,bsS,a1Q,yB]
 cases ew h ev ps with
 |none=>rfl
 |some p=>
  obtain ⟨qs,bs⟩:=p
  dsimp only
  cases Lv esz (List.replicate len (zero.map zc)) qs with
  |none=>rfl
  |some rows=>
   simp only [bsR,LU,Ki,mkR]
   by_cases a:zero.length=esz<;>cases d:zero.all ci<;>by_cases b:len*esz<=16777216<;>by_cases c:n∈bs<;>simp [a,b,c,br]
   cases frO (h n) n ⟨esz,false,rows⟩ (.sl n 0 len)<;>rfl
theorem b2a (esz len:Nat) (zero:List Value) (ps:List (Nat×V)) (bs:List Nat):bsS esz len zero h n (some (ps,bs))=bsR esz len zero bs h n (Lv esz (List.replicate len (zero.map zc)) ps):=rfl
theorem b4U (esz len:Nat) (zero:List Value) (bs:List Nat) (rows:List (List V)):bsR esz len zero bs h n (some rows)=br (Nat.beq zero.length esz&&(zero.all ci&&(Nat.ble (len*esz) 16777216&& !bs.contains n))) (a5c (iS bs) (frO (h n) n ⟨esz,false,mkR n rows⟩ (.sl n 0 len))) none:=rfl
def tbS (x:V) (h:b8) (n:Nat):Option (V×Upd):=match x with
 | .lit (.string s)=>if s.size<=cV then mJ h n ⟨1,false,s.data.toList.map fun b=>[.lit (.int .u8 b.toNat)]⟩ (.sl n 0 s.size) else none
 |_=>none
theorem b1g (x:Opd):aM C ow (.toBytes x) ev h n=tbS (ev x) h n:=rfl
theorem c85 (s:List UInt8):tbS (S s) h n=br (cP s.length 1) (frO (h n) n ⟨1,false,rws eU8 s⟩ (.sl n 0 s.length)) none:=by
 simp only [tbS,YD,cP,pQ,yB]
 by_cases a:s.length<=cV<;>simp [a,br]
 rfl
def boS (x:V) (h:b8):Option (V×Upd):=match x with
 | .sl b s n=>match h b with
   |some k=>if k.op=false/\0<k.esz/\s+n=k.rows.length/\0<n then some (.sl b s n,[(b,k)]) else none
   |none=>none
 |_=>none
theorem a3P (x:Opd):aM C ow (.bytesOwn x) ev h n=boS (ev x) h:=rfl
def boO (k:Option Blk) (b s n:Nat):Option (V×Upd):=match k with
 |some k=>if k.op=false/\0<k.esz/\s+n=k.rows.length/\0<n then some (.sl b s n,[(b,k)]) else none
 |none=>none
theorem c06 (b s q:Nat):boS (.sl b s q) h=boO (h b) b s q:=rfl
theorem c4p (b m q:Nat) (h0:Nat.blt 0 m=true) (a:l.length=q):boO (some ⟨m,false,rws e l⟩) b 0 q=br (decide (0<q)) (some (.sl b 0 q,[(b,⟨m,false,rws e l⟩)])) none:=by
 rw [EV,aC] at h0
 by_cases c:0<q<;>simp [boO,rws,a,h0,c,br]
theorem a0V (l:List UInt8):aM.bytesOf (rws eU8 l)=some l:=by
 induction l with
 |nil=>rfl
 |cons b l ih=>
  simp only [rws,aP,eU8] at ih ⊢
  simp only [aM.bytesOf]
  a c:(0:Int)<=(b.toNat:Int)/\(b.toNat:Int)<256:=⟨by omega,by a:=b.toNat_lt;omega⟩
  rw [ae c,ih]
  simp
noncomputable def tsR:Option (List (List V))->Option (V×Upd)
 |some rows=>match aM.bytesOf rows with
  |some l=>some (.lit (.string ⟨l.toArray⟩),[])
  |none=>none
 |none=>none
noncomputable def tsS (x:V) (h:b8):Option (V×Upd):=br (a6z x) none (tsR (ed h 1 x))
theorem b88 (x:Opd):aM C ow (.toStr x) ev h n=tsS (ev x) h:=by
 simp only [aM,tsS,tsR]
 cases a6z (ev x)
 ·simp only [bx,if_false,ba]
  cases ed h 1 (ev x)<;>rfl
 ·rfl
theorem b2U (l:List UInt8):tsR (some (rws eU8 l))=some (S l,[]):=by
 simp only [tsR,a0V]
theorem c68 (l:List UInt8):tsS (sl eU8 l) h=some (S l,[]):=by
 rw [tsS,ZV,ba,Vr 1 rfl,b2U]
def roO (k:Option Blk) (m s q:Nat):Option (List (List V)):=match k with
 |some k=>if k.op=false/\0<k.esz/\k.esz=m/\s+q=k.rows.length then some (k.rows.drop s) else none
 |none=>none
theorem a3X (m b s q:Nat):ed h m (.sl b s q)=roO (h b) m s q:=rfl
theorem c3A (m q:Nat) (h0:Nat.blt 0 m=true) (a:l.length=q):roO (some ⟨m,false,rws e l⟩) m 0 q=some (rws e l):=by
 rw [EV,aC] at h0
 simp [roO,rws,a,h0]
theorem a5K (s:List UInt8):ed h 1 (S s)=some (rws eU8 s):=rfl
theorem b7u (b s q:Nat):tsS (.sl b s q) h=tsR (roO (h b) 1 s q):=rfl
theorem c1C:tsS (.lit (.slice none 0 0)) h=some (S [],[]):=rfl
theorem b7n:tsS (.imm 1 []) h=some (S [],[]):=rfl
def c3E (esz bytes:Nat) (zero:List Value) (len cap:V) (h:b8) (n:Nat):Option (V×Upd):=match asI len,asI cap with
 |some l,some c=>if 0<=l/\l<=c/\c*bytes<=cV/\c*esz<=cV/\zero.length=esz/\zero.all ci then
  mJ h n ⟨esz,false,List.replicate l.toNat (zero.map zc)⟩ (.sl n 0 l.toNat) else none
 |_,_=>none
theorem a1H (esz bytes:Nat) (zero:List Value) (len cap:Opd):aM C ow (.makeSlice esz bytes zero len cap) ev h n=c3E esz bytes zero (ev len) (ev cap) h n:=rfl
theorem c4A (esz bytes:Nat) (zero:List Value) (k k':IntKind) (a c:Int) (f:Nat.ble esz bytes=true) (i:Nat.beq zero.length esz=true) (d:zero.all ci=true):
 c3E esz bytes zero (.lit (.int k a)) (.lit (.int k' c)) h n=br (zg a c bytes) (frO (h n) n ⟨esz,false,BQ n a.toNat (zero.map zc)⟩ (.sl n 0 (a7A (BQ n a.toNat (zero.map zc))))) none:=by
 b e:=hJ i
 b j:=cD f
 simp only [c3E,asI,zg,e,d,yB,BQ,a7A,aS]
 by_cases l:0<=a<;>by_cases m:a<=c<;>by_cases o:c*bytes<=cV<;>simp [l,m,o,br]
 intro p
 exfalso
 b:c*esz<=c*bytes:=Int.mul_le_mul_of_nonneg_left (by omega) (by omega)
 omega
def slS (esz:Nat) (x:V) (lo hi mx:Option V) (h:b8):Option (V×Upd):=match mx with
 |some _=>none
 |none=>match x with
  | .lit (.slice none 0 0)=>match dn hi 0 0 with
    |some q=>match dn lo 0 q with
     |some _=>some (.lit (.slice none 0 0),[])
     |none=>none
    |none=>none
  | .sl b s n=>match h b with
    |some k=>if k.op=false/\0<k.esz/\k.esz=esz/\s+n=k.rows.length then (match dn hi n n with
     |some q=>match dn lo 0 q with
      |some p=>if q=n then some (.sl b (s+p) (n-p),[]) else some ((V.imm esz (((k.rows.drop s).take q).drop p)).cz,[(b,my)])
      |none=>none
     |none=>none) else none
    |none=>none
  | .imm e rows=>if e=esz\/rows=[] then (match dn hi rows.length rows.length with
   |some q=>match dn lo 0 q with
    |some p=>some ((V.imm e ((rows.take q).drop p)).cz,[])
    |none=>none
   |none=>none) else none
  |_=>none
theorem b8V (esz:Nat) (x:Opd) (lo hi:Option Opd):aM C ow (.slice esz x lo hi none) ev h n=slS esz (ev x) (lo.map ev) (hi.map ev) none h:=rfl
theorem yx (d m:Nat):dn none d m=some d:=rfl
theorem D8 (k:IntKind) (i:Int) (d m:Nat):dn (some (.lit (.int k i))) d m=if 0<=i/\i<=m then some i.toNat else none:=rfl
theorem Pg (m:Nat) (b:e.esz=m) (lo hi:Option V):slS m (sl e l) lo hi none h=(match dn hi l.length l.length with
 |some q=>match dn lo 0 q with
  |some p=>some (sl e ((l.take q).drop p),[])
  |none=>none
 |none=>none):=by
 subst b
 rcases l9 e l with ⟨rfl,a⟩|⟨c,a⟩
 ·rw [a]
  simp only [slS,ai,or_true,if_true]
  cases dn hi 0 0 with
  |none=>rfl
  |some q=>cases dn lo 0 q<;>simp [c5C,V.cz]
 ·rw [a]
  simp only [slS,true_or,if_true,rws,aO]
  cases dn hi l.length l.length with
  |none=>rfl
  |some q=>cases dn lo 0 q<;>simp [sl,rws, <-List.map_take, <-List.map_drop]
theorem c3e (m:Nat) (a:e.esz=m):slS m (sl e l) none none none h=some (sl e l,[]):=by
 rw [Pg m a];simp [yx]
theorem c5d (m:Nat) (b:e.esz=m) (k:IntKind) (a:Int):slS m (sl e l) (some (.lit (.int k a))) none none h=(l6 l a l.length).bind (fun l'=>some (sl e l',[])):=by
 rw [Pg m b]
 simp only [yx,D8,l6]
 by_cases c:0<=a<;>by_cases d:a<=(l.length:Int)<;>simp [c,d]
theorem c5P (m:Nat) (a:e.esz=m) (k:IntKind) (b:Int):slS m (sl e l) none (some (.lit (.int k b))) none h=(l6 l 0 b).bind (fun l'=>some (sl e l',[])):=by
 rw [Pg m a]
 simp only [yx,D8,l6]
 by_cases c:0<=b<;>by_cases d:b<=(l.length:Int)<;>simp [c,d]
theorem c6a (m:Nat) (d:e.esz=m) (k k':IntKind) (a b:Int):slS m (sl e l) (some (.lit (.int k a))) (some (.lit (.int k' b))) none h=(l6 l a b).bind (fun l'=>some (sl e l',[])):=by
 rw [Pg m d]
 simp only [D8,l6]
 by_cases f:0<=b<;>by_cases i:b<=(l.length:Int)<;>by_cases j:0<=a<;>by_cases n:a<=b
 all_goals (c e1:((b.toNat:Nat):Int)=b\/ ¬0<=b:=by omega)
 all_goals (rcases e1 with e1|e1)
 all_goals (first|omega| (simp [f,i,j,n,e1];try omega))
def slO (k:Option Blk) (m b s q:Nat) (a:Int):Option (V×Upd):=match k with
 |some k=>if k.op=false/\0<k.esz/\k.esz=m/\s+q=k.rows.length then (if 0<=a/\a<=q then some (.sl b (s+a.toNat) (q-a.toNat),[]) else none) else none
 |none=>none
theorem b7M (m b s q:Nat) (k:IntKind) (a:Int):slS m (.sl b s q) (some (.lit (.int k a))) none none h=slO (h b) m b s q a:=by
 simp only [slS,slO,yx,D8]
 cases h b with
 |none=>rfl
 |some k=>
  dsimp only
  split
  ·by_cases c:0<=a/\a<=(q:Int)
   ·rw [ae c,ae c];simp
   ·rw [aa c,aa c]
  ·rfl
theorem c3v (m b s q:Nat) (a:Int) (h0:Nat.blt 0 m=true) (c:s+q=l.length):slO (some ⟨m,false,rws e l⟩) m b s q a=br (decide (0<=a)&&decide (a<=q)) (some (.sl b (s+a.toNat) (q-a.toNat),[])) none:=by
 rw [EV,aC] at h0
 by_cases d:0<=a<;>by_cases f:a<=(q:Int)<;>simp [slO,rws,c,h0,d,f,br]
def ssS (x:V) (lo hi:Option V):Option (V×Upd):=match x with
 | .lit (.string s)=>match dn hi s.size s.size with
   |some b=>match dn lo 0 b with
    |some a=>some (.lit (.string (s.extract a b)),[])
    |none=>none
   |none=>none
 |_=>none
theorem a3T (x:Opd) (lo hi:Option Opd):aM C ow (.sliceStr x lo hi) ev h n=ssS (ev x) (lo.map ev) (hi.map ev):=rfl
theorem a5J (s:List UInt8) (a b:Nat):(⟨⟨s⟩⟩:ByteArray).extract a b=⟨⟨(s.take b).drop a⟩⟩:=by
 apply ByteArray.ext
 rw [ByteArray.data_extract]
 apply eV
 simp [List.extract_eq_take_drop,List.drop_take]
theorem Ph (s:List UInt8) (lo hi:Option V):ssS (S s) lo hi=(match dn hi s.length s.length with
 |some q=>match dn lo 0 q with
  |some p=>some (S ((s.take q).drop p),[])
  |none=>none
 |none=>none):=by
 simp only [ssS,YD,a5J]
theorem c5L (s:List UInt8):ssS (S s) none none=some (S s,[]):=by rw [Ph];simp [yx]
theorem c3r (s:List UInt8) (k:IntKind) (a:Int):ssS (S s) (some (.lit (.int k a))) none=(l6 s a s.length).bind (fun l'=>some (S l',[])):=by
 rw [Ph]
 simp only [yx,D8,l6]
 by_cases b:0<=a<;>by_cases c:a<=(s.length:Int)<;>simp [b,c]
theorem c3B (s:List UInt8) (k:IntKind) (b:Int):ssS (S s) none (some (.lit (.int k b)))=(l6 s 0 b).bind (fun l'=>some (S l',[])):=by
 rw [Ph]
 simp only [yx,D8,l6]
 by_cases a:0<=b<;>by_cases c:b<=(s.length:Int)<;>simp [a,c]
theorem c3Z (s:List UInt8) (k k':IntKind) (a b:Int):ssS (S s) (some (.lit (.int k a))) (some (.lit (.int k' b)))=(l6 s a b).bind (fun l'=>some (S l',[])):=by
 rw [Ph]
 simp only [D8,l6]
 by_cases d:0<=b<;>by_cases e:b<=(s.length:Int)<;>by_cases f:0<=a<;>by_cases h:a<=b
 all_goals (c e1:((b.toNat:Nat):Int)=b\/ ¬0<=b:=by omega)
 all_goals (rcases e1 with e1|e1)
 all_goals (first|omega| (simp [d,e,f,h,e1];try omega))
noncomputable def apS (esz bytes:Nat) (zero:List Value) (x y:V) (h:b8) (n:Nat):Option (List (List V))->Option (V×Upd)
 |none=>none
 |some new_=>if zero.length=esz/\0<esz/\new_.length*bytes<=cV/\new_.length*esz<=cV then
  (match x with
  | .sl b 0 n=>match h b with
    |some k=>if k.op=false/\0<k.esz/\k.esz=esz/\n=k.rows.length/\(n+new_.length)*bytes<=cV/\(n+new_.length)*esz<=cV/\aM.selfOk b y then
     some (.sl b 0 (n+new_.length),[(b,{ k with rows:=k.rows++new_ })]) else none
    |none=>none
  | .lit (.slice none 0 0)=>mJ h n ⟨esz,false,new_⟩ (.sl n 0 new_.length)
  | .imm 0 []=>mJ h n ⟨esz,false,new_⟩ (.sl n 0 new_.length)
  |_=>none) else none
theorem b5P (esz bytes:Nat) (zero:List Value) (x y:Opd):aM C ow (.append esz bytes zero x y) ev h n=apS esz bytes zero (ev x) (ev y) h n (ed h esz (ev y)):=by
 simp only [aM]
 cases ed h esz (ev y) with
 |none=>rfl
 |some r=>rfl
noncomputable def Ih (b:Nat) (y:V):Bool:=aM.selfOk b y
theorem b26 (b:Nat):Ih b (sl e l)=true:=by
 rcases l9 e l with ⟨_,h⟩|⟨_,h⟩<;>rw [h]<;>rfl
theorem a8Q (b b' s q:Nat):Ih b (.sl b' s q)=(b !=b'):=rfl
theorem a8j (b:Nat) (s:List UInt8):Ih b (S s)=true:=rfl
theorem b0h (b:Nat):Ih b (.lit (.slice none 0 0))=true:=rfl
theorem b0H (b m:Nat) (r:List (List V)):Ih b (.imm m r)=true:=rfl
def apO (k:Option Blk) (esz bytes:Nat) (zero:List Value) (b q:Nat) (sb:Bool) (new_:List (List V)):Option (V×Upd):=match k with
 |some k=>if zero.length=esz/\0<esz/\new_.length*bytes<=cV/\new_.length*esz<=cV then
  (if k.op=false/\0<k.esz/\k.esz=esz/\q=k.rows.length/\(q+new_.length)*bytes<=cV/\(q+new_.length)*esz<=cV/\sb=true then
        some (.sl b 0 (q+new_.length),[(b,{ k with rows:=k.rows++new_ })]) else none) else none
 |none=>none
theorem c0z (esz bytes:Nat) (zero:List Value) (b q:Nat) (y:V) (new_:List (List V)):apS esz bytes zero (.sl b 0 q) y h n (some new_)=apO (h b) esz bytes zero b q (Ih b y) new_:=by
 simp only [apS,apO,Ih]
 cases h b with
 |none=>simp
 |some k=>rfl
theorem c3k (m bytes:Nat) (zero:List Value) (b q:Nat) (sb:Bool) (h:Nat.beq zero.length m=true) (h0:Nat.blt 0 m=true) (i:Nat.ble m bytes=true) (j:l.length=q) (k:sb=true):
 apO (some ⟨m,false,rws e l⟩) m bytes zero b q sb (rws e l2)=br (cP (l++l2).length bytes) (some (.sl b 0 (l++l2).length,[(b,⟨m,false,rws e (l++l2)⟩)])) none:=by
 a f:=hJ h
 a c:=cD i
 rw [EV,aC] at h0
 subst k j
 simp only [apO,cP,rws,aO,ab,cI]
 a e1:(l.length+l2.length)*m<=(l.length+l2.length)*bytes:=iC _ c
 a e2:l2.length*bytes<=(l.length+l2.length)*bytes:=bi _ (by omega)
 a o:l2.length*m<=l2.length*bytes:=iC _ c
 by_cases d:(l.length+l2.length)*bytes<=cV
 ·rw [ae ⟨f,h0,by omega,by omega⟩,ae ⟨by trivial,h0,by trivial,by trivial,d,by omega,by trivial⟩,al d,cL]
 ·rw [ag d,ba]
  split
  ·rw [aa (fun n=>d n.2.2.2.2.1)]
  ·rfl
theorem c0d (m bytes:Nat) (zero:List Value) (y:V) (f:Nat.beq zero.length m=true) (h0:Nat.blt 0 m=true) (i:Nat.ble m bytes=true):
 apS m bytes zero (.lit (.slice none 0 0)) y h n (some (rws e l2))=br (cP l2.length bytes) (frO (h n) n ⟨m,false,rws e l2⟩ (.sl n 0 l2.length)) none:=by
 a c:=hJ f
 a d:=cD i
 rw [EV,aC] at h0
 simp only [apS,cP,yB]
 a j:(rws e l2).length=l2.length:=by simp [rws]
 rw [j]
 a l:l2.length*m<=l2.length*bytes:=iC _ d
 by_cases b:l2.length*bytes<=cV
 ·rw [ae ⟨c,h0,b,by omega⟩,al b,cL]
 ·rw [ag b,ba,aa (fun k=>b k.2.2.1)]
def Cj (l:List α) (s k:Nat) (l2:List α):List α:=l.take s++(l2.take k++l.drop (s+k))
def c5a (esz bytes:Nat) (zero:List Value) (x y:V) (h:b8) (n:Nat):Option (V×Upd):=match asI y with
 |some l=>if 0<=l/\l<=1099511627776/\l*bytes<=1099511627776/\zero.all ci then Jj esz bytes zero x (fun _=>true) h n (List.replicate l.toNat (zero.map zc)) else none
 |none=>none
theorem b0V (esz bytes:Nat) (zero:List Value) (x y:Opd):aM C ow (.appendN esz bytes zero x y) ev h n=c5a esz bytes zero (ev x) (ev y) h n:=rfl
theorem b5f (m bytes:Nat) (zero:List Value) (b q:Nat) (k:IntKind) (a:Int) (c:zero.all ci=true):
 c5a m bytes zero (.sl b 0 q) (.lit (.int k a)) h n=br (zg a a bytes&&decide (a<=1099511627776)) (apO (h b) m bytes zero b q true (BQ n a.toNat (zero.map zc))) none:=by
 simp only [c5a,asI,zg,c,BQ,cV]
 by_cases d:0<=a<;>by_cases e:a*bytes<=1099511627776<;>by_cases f:a<=1099511627776<;>simp [d,e,f,br]
 simp only [Jj,apO]
 cases h b with
 |none=>simp
 |some kk=>rfl
noncomputable def cpS (esz:Nat) (x y:V) (h:b8):Option (List (List V))->Option (V×Upd)
 |some rows=>match x with
  | .sl b s n=>match h b with
    |some k=>if k.op=false/\0<k.esz/\k.esz=esz/\s+n=k.rows.length/\aM.selfOk b y then
     some (.lit (.int .i64 (min rows.length n)),[(b,{ k with rows:=k.rows.take s++(rows.take (min rows.length n)++k.rows.drop (s+min rows.length n)) })]) else none
    |none=>none
  |_=>none
 |none=>none
theorem c5A (esz:Nat) (x y:Opd):aM C ow (.copy esz x y) ev h n=cpS esz (ev x) (ev y) h (ed h esz (ev y)):=by
 simp only [aM,cpS]
 cases ed h esz (ev y) with
 |none=>rfl
 |some r=>cases ev x<;>rfl
def cpO (k:Option Blk) (esz b s q:Nat) (sb:Bool) (rows:List (List V)):Option (V×Upd):=match k with
 |some k=>if k.op=false/\0<k.esz/\k.esz=esz/\s+q=k.rows.length/\sb=true then
  some (.lit (.int .i64 (min rows.length q)),[(b,{ k with rows:=k.rows.take s++(rows.take (min rows.length q)++k.rows.drop (s+min rows.length q)) })]) else none
 |none=>none
theorem b8J (esz b s q:Nat) (y:V) (rows:List (List V)):cpS esz (.sl b s q) y h (some rows)=cpO (h b) esz b s q (Ih b y) rows:=by
 simp only [cpS,cpO,Ih]
 cases h b<;>rfl
theorem c3I (m b s q:Nat) (sb:Bool) (h0:Nat.blt 0 m=true) (c:sb=true):cpO (some ⟨m,false,rws e l⟩) m b s q sb (rws e l2)=
 br (decide (s+q=l.length)) (some (I (min (l2.length:Int) (q:Int)),[(b,⟨m,false,rws e (Cj l s (min l2.length q) l2)⟩)])) none:=by
 rw [EV,aC] at h0
 subst c
 simp only [cpO]
 by_cases a:s+q=l.length
 ·rw [ae ⟨by trivial,h0,by trivial,by simp [rws,a],by trivial⟩,al a,cL]
  simp [rws,Cj,List.map_take,List.map_drop]
 ·rw [ag a,ba,aa (fun d=>a (by simpa [rws] using d.2.2.2.1))]
def ncS (x:V) (h:b8):Option (V×Upd):=match x with
 | .ptr b i o n=>match h b with
   |some k=>if k.rows.length=n/\i<n then some (.ptr b i o n,[]) else none
   |none=>none
 | .iptr r o=>some (.iptr r o,[])
 | .fn f c=>some (.fn f c,[])
 |_=>none
theorem a68 (x:Opd):aM C ow (.nilCheck x) ev h n=ncS (ev x) h:=by
 simp only [aM,ncS]
 cases ev x<;>rfl
def ncO (k:Option Blk) (b i o m:Nat):Option (V×Upd):=match k with
 |some k=>if k.rows.length=m/\i<m then some (.ptr b i o m,[]) else none
 |none=>none
theorem c86 (b i o m:Nat):ncS (.ptr b i o m) h=ncO (h b) b i o m:=rfl
theorem c66 (b o m:Nat) (row:List V):ncO (some ⟨m,true,[row]⟩) b 0 o 1=some (.ptr b 0 o 1,[]):=rfl
theorem c84 (r:List V) (o:Nat):ncS (.iptr r o) h=some (.iptr r o,[]):=rfl
theorem c7L (f:FuncId) (c:List V):ncS (.fn f c) h=some (.fn f c,[]):=rfl
def mxS (x y:V):Option (V×Upd):=match x,y with
 | .lit (.int k a),.lit (.int _ b)=>some (.lit (.int k (if b>a then b else a)),[])
 |_,_=>none
theorem c4n (x y:Opd):aM C ow (.max2 x y) ev h n=mxS (ev x) (ev y):=by
 simp only [aM,mxS]
 cases ev x<;>cases ev y<;>rfl
theorem c7p (k k':IntKind) (a b:Int):mxS (.lit (.int k a)) (.lit (.int k' b))=some (.lit (.int k (mx a b)),[]):=rfl
def mnS (x y:V):Option (V×Upd):=match x,y with
 | .lit (.int k a),.lit (.int _ b)=>some (.lit (.int k (if b<a then b else a)),[])
 |_,_=>none
theorem c4L (x y:Opd):aM C ow (.min2 x y) ev h n=mnS (ev x) (ev y):=by
 simp only [aM,mnS]
 cases ev x<;>cases ev y<;>rfl
theorem c6x (k k':IntKind) (a b:Int):mnS (.lit (.int k a)) (.lit (.int k' b))=some (.lit (.int k (mn a b)),[]):=rfl
noncomputable def ND (fl ro:Bool) (h:b8) (new:Nat) (ids bor:List Nat):Option (V×List Blk)->Option (V×Upd)
 |some (r,bs)=>roW ro h (yw fl h new ids bor r bs)
 |none=>none
noncomputable def roX (k':Option Blk) (b:Nat) (k:Blk) (x:Option Upd):Option Upd:=match k' with
 |none=>x.map ((b,k):: ·)
 |some k'=>open Classical in if k'=k then x else none
def roE (v:V):Option Upd->Option (V×Upd)
 |some u=>some (v,u)
 |none=>none
theorem c1s:roU h []=some []:=rfl
theorem b3l (b:Nat) (k:Blk) (r:Upd):roU h ((b,k)::r)=roX (h b) b k (roU h r):=by
 simp only [roU,roX];cases h b<;>rfl
theorem b2k (b:Nat) (k:Blk) (x:Option Upd):roX (some k) b k x=x:=by simp [roX]
theorem b5N (b:Nat) (k:Blk) (u:Upd):roX none b k (some u)=some ((b,k)::u):=rfl
theorem b41 (v:V) (u:Upd):roE v (some u)=some (v,u):=rfl
theorem c7T (x:Option (V×Upd)):roW false h x=x:=by cases x<;>rfl
theorem c5y (c:Bool) (x y:Option (V×Upd)):roW true h (br c x y)=br c (roW true h x) (roW true h y):=by cases c<;>rfl
theorem b4B:roW true h none=none:=rfl
theorem b5d (v:V) (u:Upd):roW true h (some (v,u))=roE v (roU h u):=by
 simp only [roW,if_true,roE];cases roU h u<;>rfl
noncomputable def Kq (C:ce) (ow:FuncId->List Nat) (h:b8) (new:Nat) (f:FuncId):Option (List V×List Blk×List Nat×List Nat)->Option (V×Upd)
 |some (args',blks,ids,bor)=>ND ((ow f).contains 2000) ((ow f).contains 3000) h new ids bor (C f (u5 (ow f) args') (uR (ow f) blks))
 |none=>none
theorem Wl (f:FuncId) (args:List V):nR C ow h n f args=Kq C ow h n f (fi ow h f args):=by
 unfold nR Kq ND
 cases fi ow h f args with
 |none=>rfl
 |some p=>obtain ⟨a,b,c,d⟩:=p;dsimp only;cases C f (u5 (ow f) a) (uR (ow f) b)<;>rfl
theorem c53 (f:FuncId) (args:List Opd):aM C ow (.call f args) ev h n=Kq C ow h n f (fi ow h f (args.map ev)):=Wl _ _
noncomputable def c6o (C:ce) (ow:FuncId->List Nat) (h:b8) (n:Nat) (args:List V):V->Option (V×Upd)
 | .fn k caps=>Kq C ow h n k (fi ow h k (args++caps))
 |_=>none
theorem c7U (f:Opd) (args:List Opd):aM C ow (.dyn f args) ev h n=c6o C ow h n (args.map ev) (ev f):=by
 simp only [aM,c6o]
 cases ev f<;>first|rfl|exact Wl _ _
theorem c1x (args:List V) (k:FuncId) (caps:List V):c6o C ow h n args (.fn k caps)=Kq C ow h n k (fi ow h k (args++caps)):=rfl
theorem a6t (f:FuncId) (a:List V) (b:List Blk) (c d:List Nat):Kq C ow h n f (some (a,b,c,d))=ND ((ow f).contains 2000) ((ow f).contains 3000) h n c d (C f (u5 (ow f) a) (uR (ow f) b)):=rfl
theorem b52 (f:FuncId) (c:Bool) (x y:Option (List V×List Blk×List Nat×List Nat)):Kq C ow h n f (br c x y)=br c (Kq C ow h n f x) (Kq C ow h n f y):=by cases c<;>rfl
def a6P (args':List V) (bor:List Nat):Option (List Blk×List Nat)->Option (List V×List Blk×List Nat×List Nat)
 |some (blks,ids)=>br (bor.any (fun b=>decide (b∈ids))) none (some (args',blks,ids,bor))
 |none=>none
def a1Y (h:b8):Option (List V×List Nat×List Nat)->Option (List V×List Blk×List Nat×List Nat)
 |some (args',ids0,bor)=>a6P args' bor (fM h 40 0 ids0)
 |none=>none
theorem a1r (f:FuncId) (args:List V):fi ow h f args=a1Y h (jK h (ow f) 0 [] args):=by
 unfold fi a1Y a6P
 cases jK h (ow f) 0 [] args with
 |none=>rfl
 |some p=>
  obtain ⟨a,i,b⟩:=p
  dsimp only
  cases fM h 40 0 i with
  |none=>rfl
  |some q=>
   obtain ⟨bl,ids⟩:=q
   dsimp only
   cases c:b.any (fun b=>decide (b∈ids))<;>simp [br]
theorem a4f (a:List V) (i b:List Nat):a1Y h (some (a,i,b))=a6P a b (fM h 40 0 i):=rfl
theorem a47 (a:List V) (b:List Nat) (bl:List Blk) (ids:List Nat):a6P a b (some (bl,ids))=br (b.any (fun b=>decide (b∈ids))) none (some (a,bl,ids,b)):=rfl
def la2 (v':V) (bs:List Nat):Option (List V×List Nat×List Nat)->Option (List V×List Nat×List Nat)
 |some (r',ids'',bs')=>some (v'::r',ids'',bs++bs')
 |none=>none
def la1 (h:b8) (owns:List Nat) (j:Nat) (r:List V):Option (V×List Nat×List Nat)->Option (List V×List Nat×List Nat)
 |some (v',ids',bs)=>la2 v' bs (jK h owns (j+1) ids' r)
 |none=>none
theorem a3C (owns:List Nat) (j:Nat) (ids:List Nat):jK h owns j ids []=some ([],ids,[]):=rfl
theorem Xp (owns:List Nat) (j:Nat) (ids:List Nat) (v:V) (r:List V):jK h owns j ids (v::r)=la1 h owns j r (fm h (owns.contains j) ids v):=by
 d:decide (j∈owns)=owns.contains j:=by simp [List.contains_iff_mem,pn]
 simp only [jK,la1,la2,this]
 cases fm h (owns.contains j) ids v with
 |none=>rfl
 |some p=>obtain ⟨a,b,c⟩:=p;dsimp only;cases jK h owns (j+1) b r<;>rfl
theorem b2F (owns:List Nat) (j:Nat) (r:List V) (v':V) (ids' bs:List Nat):la1 h owns j r (some (v',ids',bs))=la2 v' bs (jK h owns (j+1) ids' r):=rfl
theorem b3t (v':V) (bs:List Nat) (r':List V) (i b:List Nat):la2 v' bs (some (r',i,b))=some (v'::r',i,bs++b):=rfl
def lcP (k:Option Blk) (ids:List Nat) (b i o m:Nat):Option (V×List Nat×List Nat):=match k with
 |some k=>if k.rows.length=m then some (.ptr (kK b (gj ids b)) i o m,gj ids b,[]) else none
 |none=>none
def lcO (k:Option Blk) (own:Bool) (ids:List Nat) (b s q:Nat):Option (V×List Nat×List Nat):=match k with
 |some k=>if s+q=k.rows.length then
  (if own then some (.sl (kK b (gj ids b)) s q,gj ids b,[]) else if k.op=false/\0<k.esz then some (.imm k.esz (k.rows.drop s),ids,[b]) else none) else none
 |none=>none
theorem b6e (own:Bool) (ids:List Nat) (v:Value):dw h own ids (.lit v)=some (.lit v,ids,[]):=rfl
theorem c2x (own:Bool) (ids:List Nat) (m:Nat) (r:List (List V)):dw h own ids (.imm m r)=some (.imm m r,ids,[]):=rfl
theorem c0r (own:Bool) (ids:List Nat) (r:List V) (o:Nat):dw h own ids (.iptr r o)=some (.iptr r o,ids,[]):=rfl
theorem c7W (own:Bool) (ids:List Nat) (f:FuncId):dw h own ids (.fn f [])=some (.fn f [],ids,[]):=rfl
theorem b3k (own:Bool) (ids:List Nat):dw h own ids .undef=some (.undef,ids,[]):=rfl
theorem c3a (own:Bool) (ids:List Nat) (b i o m:Nat):dw h own ids (.ptr b i o m)=lcP (h b) ids b i o m:=rfl
theorem c5D (own:Bool) (ids:List Nat) (b s q:Nat):dw h own ids (.sl b s q)=lcO (h b) own ids b s q:=rfl
theorem PA (own:Bool) (ids:List Nat) (v:Value):fm h own ids (.lit v)=some (.lit v,ids,[]):=rfl
theorem c4G (own:Bool) (ids:List Nat) (m:Nat) (r:List (List V)):fm h own ids (.imm m r)=some (.imm m r,ids,[]):=rfl
theorem b7l (own:Bool) (ids:List Nat) (r:List V) (o:Nat):fm h own ids (.iptr r o)=some (.iptr r o,ids,[]):=rfl
theorem c59 (own:Bool) (ids:List Nat) (b i o m:Nat):fm h own ids (.ptr b i o m)=lcP (h b) ids b i o m:=rfl
theorem c4q (own:Bool) (ids:List Nat) (b s q:Nat):fm h own ids (.sl b s q)=lcO (h b) own ids b s q:=rfl
def lcA (mk:List V->V):Option (List V×List Nat×List Nat)->Option (V×List Nat×List Nat)
 |some (cs',ids',bs)=>some (mk cs',ids',bs)
 |none=>none
theorem c4c (own:Bool) (ids:List Nat) (cs:List V):fm h own ids (.agg cs)=lcA V.agg (eO h own ids cs):=by
 simp only [fm,lcA]
 cases eO h own ids cs<;>rfl
theorem c7a (own:Bool) (ids:List Nat) (f:FuncId) (cs:List V):fm h own ids (.fn f cs)=lcA (V.fn f) (eO h true ids cs):=by
 simp only [fm,lcA]
 cases eO h true ids cs<;>rfl
theorem b40 (mk:List V->V) (cs:List V) (i b:List Nat):lcA mk (some (cs,i,b))=some (mk cs,i,b):=rfl
def b53 (h:b8) (own:Bool) (r:List V):Option (V×List Nat×List Nat)->Option (List V×List Nat×List Nat)
 |some (v',ids',bs)=>la2 v' bs (eO h own ids' r)
 |none=>none
theorem Y9 (own:Bool) (ids:List Nat):eO h own ids []=some ([],ids,[]):=rfl
theorem IP (own:Bool) (ids:List Nat) (v:V) (r:List V):eO h own ids (v::r)=b53 h own r (dw h own ids v):=by
 simp only [eO,b53,la2]
 cases dw h own ids v with
 |none=>rfl
 |some p=>obtain ⟨a,b,c⟩:=p;dsimp only;cases eO h own b r<;>rfl
theorem Vx (own:Bool) (r:List V) (v':V) (ids' bs:List Nat):b53 h own r (some (v',ids',bs))=la2 v' bs (eO h own ids' r):=rfl
theorem c2X (ids:List Nat) (b o m:Nat) (row:List V):lcP (some ⟨m,true,[row]⟩) ids b 0 o 1=some (.ptr (kK b (gj ids b)) 0 o 1,gj ids b,[]):=rfl
theorem c7u (m:Nat) (ids:List Nat) (b s q:Nat) (a:s+q=l.length):lcO (some ⟨m,false,rws e l⟩) true ids b s q=some (.sl (kK b (gj ids b)) s q,gj ids b,[]):=by
 simp [lcO,rws,a]
theorem c76 (m:Nat) (ids:List Nat) (b q:Nat) (h0:Nat.blt 0 m=true) (a:l.length=q):lcO (some ⟨m,false,rws e l⟩) false ids b 0 q=some (.imm m (rws e l),ids,[b]):=by
 rw [EV,aC] at h0
 simp [lcO,rws,a,h0]
def lb2 (k:Blk):Option (List Blk×List Nat)->Option (List Blk×List Nat)
 |some (r,ids')=>some (k::r,ids')
 |none=>none
def ld2 (v':V):Option (List V×List Nat)->Option (List V×List Nat)
 |some (r',i)=>some (v'::r',i)
 |none=>none
def ld1 (h:b8) (r:List V):Option (V×List Nat×List Nat)->Option (List V×List Nat)
 |some (v',ids',_)=>ld2 v' (re h ids' r)
 |none=>none
theorem b02 (ids:List Nat):re h ids []=some ([],ids):=rfl
theorem y0 (ids:List Nat) (v:V) (r:List V):re h ids (v::r)=ld1 h r (fm h true ids v):=by
 simp only [re,ld1,ld2]
 cases fm h true ids v with
 |none=>rfl
 |some p=>obtain ⟨a,b,c⟩:=p;dsimp only;cases re h b r<;>rfl
theorem Gu (r:List V) (v':V) (ids' bs:List Nat):ld1 h r (some (v',ids',bs))=ld2 v' (re h ids' r):=rfl
theorem b5W (v':V) (r':List V) (i:List Nat):ld2 v' (some (r',i))=some (v'::r',i):=rfl
def lb1 (h:b8) (fuel pos m:Nat):Option (List V×List Nat)->Option (List Blk×List Nat)
 |some (row,ids1)=>lb2 ⟨m,true,[row]⟩ (fM h fuel (pos+1) ids1)
 |none=>none
def lb0 (h:b8) (fuel pos:Nat) (ids:List Nat):Option Blk->Option (List Blk×List Nat)
 |some k=>if k.op=false then lb2 k (fM h fuel (pos+1) ids) else (match oL h ids k.rows with
  |none=>none
  |some (rows,ids1)=>lb2 { k with rows:=rows } (fM h fuel (pos+1) ids1))
 |none=>none
def lbN (h:b8) (fuel pos:Nat) (ids:List Nat):Option Nat->Option (List Blk×List Nat)
 |none=>some ([],ids)
 |some b=>lb0 h fuel pos ids (h b)
theorem a5C (fuel pos:Nat) (ids:List Nat):fM h (fuel+1) pos ids=lbN h fuel pos ids ids[pos]? :=by
 simp only [fM,lbN,lb0]
 cases ids[pos]? with
 |none=>rfl
 |some b=>
  dsimp only
  cases h b with
  |none=>rfl
  |some k=>
   dsimp only
   split
   ·cases fM h fuel (pos+1) ids<;>rfl
   ·cases oL h ids k.rows with
    |none=>rfl
    |some p=>obtain ⟨rows,ids1⟩:=p;dsimp only;cases fM h fuel (pos+1) ids1<;>rfl
theorem b5M (fuel pos:Nat) (ids:List Nat):lbN h fuel pos ids none=some ([],ids):=rfl
theorem b5E (fuel pos:Nat) (ids:List Nat) (b:Nat):lbN h fuel pos ids (some b)=lb0 h fuel pos ids (h b):=rfl
theorem c5T (fuel pos:Nat) (ids:List Nat) (m:Nat) (r:List (List V)):lb0 h fuel pos ids (some ⟨m,false,r⟩)=lb2 ⟨m,false,r⟩ (fM h fuel (pos+1) ids):=rfl
theorem c3q (fuel pos:Nat) (ids:List Nat) (m:Nat) (row:List V):lb0 h fuel pos ids (some ⟨m,true,[row]⟩)=lb1 h fuel pos m (re h ids row):=by
 simp only [lb0,oL,lb1]
 cases re h ids row with
 |none=>rfl
 |some p=>obtain ⟨a,b⟩:=p;rfl
theorem b6v (fuel pos m:Nat) (row:List V) (ids1:List Nat):lb1 h fuel pos m (some (row,ids1))=lb2 ⟨m,true,[row]⟩ (fM h fuel (pos+1) ids1):=rfl
theorem b2W (k:Blk) (r:List Blk) (ids:List Nat):lb2 k (some (r,ids))=some (k::r,ids):=rfl
theorem c6Y (n:Nat):gc [] [] n=[]:=rfl
theorem c81 (k:Blk) (r:List Blk) (n:Nat):gc [] (k::r) n=n::gc [] r (n+1000000):=rfl
theorem c88 (i:Nat) (ids:List Nat) (k:Blk) (r:List Blk) (n:Nat):gc (i::ids) (k::r) n=gc ids r n:=rfl
def cpw (fl:Bool) (new:Nat) (ids bor:List Nat) (r:V) (bs:List Blk) (ns:List Nat):Option (V×Upd):=some (Bu (ids++ns) r,nH (ids++ns) (bs.map (kx (ids++ns)))++br (bor.isEmpty||(sT r&&bs.all (rm fl))) [] (iS bor))
theorem c5j (fl:Bool) (new:Nat) (ids bor:List Nat) (r:V) (bs:List Blk) (ns:List Nat):cpw fl new ids bor r bs ns=some (Bu (ids++ns) r,nH (ids++ns) (bs.map (kx (ids++ns)))++br (bor.isEmpty||(sT r&&bs.all (rm fl))) [] (iS bor)):=rfl
theorem a5F (fl ro:Bool) (new:Nat) (ids bor:List Nat) (r:V) (bs:List Blk):ND fl ro h new ids bor (some (r,bs))=
 roW ro h (br (Nat.ble ids.length bs.length&&(gc ids bs new).all (fun b=>(h b).isNone)) (cpw fl new ids bor r bs (gc ids bs new)) none):=by
 refine congrArg (roW ro h) ?_
 simp only [yw,cpw,Ki]
 generalize (gc ids bs new).all (fun b=>(h b).isNone)=c3
 generalize (bor.isEmpty||(sT r&&bs.all (rm fl)))=c4
 by_cases a:ids.length<=bs.length
 ·rw [al a];cases c3<;>cases c4<;>simp [a,br]
 ·rw [ag a];cases c3<;>cases c4<;>simp [a,br]
theorem a8R (ids:List Nat) (vs:List V):Bu ids (.tup vs)= .tup (vs.map (mI ids)):=rfl
theorem a9T (ids:List Nat) (vs:List V):Bu ids (.agg vs)= .agg (vs.map (unV ids)):=rfl
theorem b1c (ids:List Nat) (v:Value):Bu ids (.lit v)= .lit v:=rfl
theorem b04 (ids:List Nat) (m:Nat) (r:List (List V)):Bu ids (.imm m r)= .imm m r:=rfl
theorem a2w (ids:List Nat):Bu ids .undef= .undef:=rfl
theorem a8k (ids:List Nat) (b i o m:Nat):Bu ids (.ptr b i o m)= .ptr (ids.getD b 0) i o m:=rfl
theorem b1a (ids:List Nat) (b s q:Nat):Bu ids (.sl b s q)= .sl (ids.getD b 0) s q:=rfl
theorem b1d (ids:List Nat) (vs:List V):mI ids (.agg vs)= .agg (vs.map (unV ids)):=rfl
theorem b0p (ids:List Nat) (v:Value):mI ids (.lit v)= .lit v:=rfl
theorem b0L (ids:List Nat) (m:Nat) (r:List (List V)):mI ids (.imm m r)= .imm m r:=rfl
theorem a9l (ids:List Nat) (b i o m:Nat):mI ids (.ptr b i o m)= .ptr (ids.getD b 0) i o m:=rfl
theorem a8Z (ids:List Nat) (b s q:Nat):mI ids (.sl b s q)= .sl (ids.getD b 0) s q:=rfl
theorem b9r (ids:List Nat) (v:Value):unV ids (.lit v)= .lit v:=rfl
theorem c2s (ids:List Nat) (f:FuncId) (cs:List V):unV ids (.fn f cs)= .fn f cs:=rfl
theorem b57 (ids:List Nat) (f:FuncId) (cs:List V):mI ids (.fn f cs)= .fn f (cs.map (unV ids)):=rfl
theorem b9G (ids:List Nat) (m:Nat) (r:List (List V)):unV ids (.imm m r)= .imm m r:=rfl
theorem b8c (ids:List Nat) (b i o m:Nat):unV ids (.ptr b i o m)= .ptr (ids.getD b 0) i o m:=rfl
theorem b8X (ids:List Nat) (b s q:Nat):unV ids (.sl b s q)= .sl (ids.getD b 0) s q:=rfl
theorem b6a (ids:List Nat) (m:Nat) (r:List (List V)):kx ids ⟨m,false,r⟩=⟨m,false,r⟩:=rfl
theorem a8x (ids:List Nat) (m:Nat) (row:List V):kx ids ⟨m,true,[row]⟩=⟨m,true,[row.map (mI ids)]⟩:=rfl
theorem c5w (v:Value):sT (.lit v)=true:=rfl
theorem b4I:sT .undef=true:=rfl
theorem c3T (m:Nat) (r:List (List V)):sT (.imm m r)=false:=rfl
theorem c4H (vs:List V):sT (.agg vs)=vs.all pN:=rfl
theorem c2B (vs:List V):sT (.tup vs)=vs.all E9:=rfl
theorem c4b (b i o m:Nat):sT (.ptr b i o m)=true:=rfl
theorem c3c (b s q:Nat):sT (.sl b s q)=true:=rfl
theorem b9A (v:Value):E9 (.lit v)=true:=rfl
theorem b76 (m:Nat) (r:List (List V)):E9 (.imm m r)=false:=rfl
theorem b7P (vs:List V):E9 (.agg vs)=vs.all pN:=rfl
theorem b8w (b i o m:Nat):E9 (.ptr b i o m)=true:=rfl
theorem b7i (b s q:Nat):E9 (.sl b s q)=true:=rfl
theorem b96 (v:Value):pN (.lit v)=true:=rfl
theorem c2Q (f:FuncId) (cs:List V):pN (.fn f cs)=false:=rfl
theorem c4k (f:FuncId) (cs:List V):E9 (.fn f cs)=false:=rfl
theorem c8c (f:FuncId) (cs:List V):sT (.fn f cs)=false:=rfl
theorem c0O (m:Nat) (r:List (List V)):pN (.imm m r)=false:=rfl
theorem c0j (b i o m:Nat):pN (.ptr b i o m)=true:=rfl
theorem b98 (b s q:Nat):pN (.sl b s q)=true:=rfl
theorem c6l (m:Nat) (r:List (List V)):rm false ⟨m,false,r⟩=false:=rfl
theorem a3s {α:Type} {e:En α} (a: ∀x,(e.enc x).all pN=true) (m:Nat) (l:List α):rm true ⟨m,false,rws e l⟩=true:=by
 simp only [rm,Bool.true_or,aN,rws,List.all_map,aB]
 exact fun x _=>a x
theorem c6L (m:Nat) (l:List Int):rm true ⟨m,false,rws eI l⟩=true:=a3s (fun _=>rfl) m l
theorem c7m (m:Nat) (l:List Bool):rm true ⟨m,false,rws eB l⟩=true:=a3s (fun _=>rfl) m l
theorem c6u (m:Nat) (l:List UInt8):rm true ⟨m,false,rws eU8 l⟩=true:=a3s (fun _=>rfl) m l
theorem b8D (m:Nat) (l:List Int):rm true ⟨m,false,rws a3c l⟩=true:=a3s (fun _=>rfl) m l
theorem c74 (m:Nat) (l:List (List UInt8)):rm true ⟨m,false,rws eS l⟩=true:=a3s (fun _=>rfl) m l
theorem c2R (fl:Bool) (m:Nat) (row:List V):rm fl ⟨m,true,[row]⟩=row.all pN:=by simp [rm]
def b7W (raw:Bool) (m:Nat):Option (List V)->Option (List Blk)->Option (V×List Blk)
 |some vs',some bs=>br (Nat.ble m 1000) (some ((Xk vs').czR,br raw bs (bs.map Blk.cz))) none
 |_,_=>none
def a0G (keep raw:Bool) (m:Nat) (h:b8):Option (List V)->Option (V×List Blk)
 |some vs=>b7W raw m (wx h m (br keep (lZ raw h m vs) []) vs) (vk h m (br keep (lZ raw h m vs) []) (List.range m++(br keep (lZ raw h m vs) [])))
 |none=>none
theorem a6H (nt:Nat) (body:aQ) (res:List Kv) (keep raw:Bool) (m:Nat) (st:St) (x:bR) (b:x= .ret\/x= .normal):a4s ⟨nt,body,res,keep,raw⟩ m x st=a0G keep raw m st.heap (m2 st res):=by
 a c: ∀vs:List V,(if keep=true then lZ raw st.heap m vs else [])=br keep (lZ raw st.heap m vs) []:=fun vs=>by cases keep<;>rfl
 a:a4s ⟨nt,body,res,keep,raw⟩ m x st=a4s ⟨nt,body,res,keep,raw⟩ m .ret st:=by rcases b with rfl|rfl<;>rfl
 rw [this]
 simp only [a4s,kG,a0G,b7W,a1L,c,Ki]
 cases m2 st res with
 |none=>rfl
 |some vs=>
  dsimp only
  cases wx st.heap m (br keep (lZ raw st.heap m vs) []) vs with
  |none=>rfl
  |some vs'=>
   cases vk st.heap m (br keep (lZ raw st.heap m vs) []) (List.range m++(br keep (lZ raw st.heap m vs) [])) with
   |none=>rfl
   |some bs=>by_cases d:m<=1000<;>cases raw<;>simp [d,br]
theorem b3u (nt:Nat) (body:aQ) (res:List Kv) (keep raw:Bool) (m:Nat) (st:St):a4s ⟨nt,body,res,keep,raw⟩ m .ret st=a0G keep raw m st.heap (m2 st res):=a6H _ _ _ _ _ _ _ _ (.inl rfl)
theorem a2E (nt:Nat) (body:aQ) (res:List Kv) (keep raw:Bool) (m:Nat) (st:St):a4s ⟨nt,body,res,keep,raw⟩ m .normal st=a0G keep raw m st.heap (m2 st res):=a6H _ _ _ _ _ _ _ _ (.inr rfl)
theorem b0q (keep raw:Bool) (m:Nat) (vs:List V):a0G keep raw m h (some vs)=b7W raw m (wx h m (br keep (lZ raw h m vs) []) vs) (vk h m (br keep (lZ raw h m vs) []) (List.range m++(br keep (lZ raw h m vs) []))):=rfl
theorem a80 (raw:Bool) (m:Nat) (vs:List V) (bs:List Blk):b7W raw m (some vs) (some bs)=br (Nat.ble m 1000) (some ((Xk vs).czR,br raw bs (bs.map Blk.cz))) none:=rfl
def rs1:Option V->Option (List V)->Option (List V)
 |some v,some vs=>some (v::vs)
 |_,_=>none
theorem b4y (st:St):m2 st []=some []:=rfl
theorem a9H (st:St) (r:Kv) (rs:List Kv):m2 st (r::rs)=rs1 (HM st r) (m2 st rs):=by
 simp only [m2,rs1]
 cases HM st r<;>cases m2 st rs<;>rfl
theorem b3X (v:V) (vs:List V):rs1 (some v) (some vs)=some (v::vs):=rfl
theorem b8k (st:St) (t:Nat):HM st (.tmp t)=some (st.get t):=rfl
theorem b4E (st:St) (t:Nat) (g:Option Nat):HM st (.cell t g)=ym g st.heap (st.get t):=rfl
def c8R:Option V->Option (List V)->Option (List V)
 |some v,some vs=>some (v::vs)
 |_,_=>none
theorem b0N (m:Nat) (kp:List Nat):wx h m kp []=some []:=rfl
theorem a4T (m:Nat) (kp:List Nat) (v:V) (r:List V):wx h m kp (v::r)=rs1 (ET h m kp v) (wx h m kp r):=by
 simp only [wx,rs1]
 cases ET h m kp v<;>cases wx h m kp r<;>rfl
theorem b0k (m:Nat) (kp:List Nat):wz h m kp []=some []:=rfl
theorem Rp (m:Nat) (kp:List Nat) (v:V) (r:List V):wz h m kp (v::r)=rs1 (pK h m kp v) (wz h m kp r):=by
 simp only [wz,rs1]
 cases pK h m kp v<;>cases wz h m kp r<;>rfl
def fag:Option (List V)->Option V
 |some cs=>some (.agg cs)
 |none=>none
theorem b4W (m:Nat) (kp:List Nat) (cs:List V):ET h m kp (.agg cs)=fag (wz h m kp cs):=by
 simp only [ET,fag]
 cases wz h m kp cs<;>rfl
theorem b1Q (cs:List V):fag (some cs)=some (.agg cs):=rfl
theorem b5a (m:Nat) (kp:List Nat) (v:Value):ET h m kp (.lit v)=some (.lit v):=rfl
theorem b1H (m:Nat) (kp:List Nat) (q:Nat) (r:List (List V)):ET h m kp (.imm q r)=some (.imm q r):=rfl
theorem a4H (m:Nat) (kp:List Nat):ET h m kp .undef=some .undef:=rfl
theorem b8M (m:Nat) (kp:List Nat) (f:FuncId):ET h m kp (.fn f [])=some (.fn f []):=rfl
theorem b4l (m:Nat) (kp:List Nat) (v:Value):pK h m kp (.lit v)=some (.lit v):=rfl
theorem b3b (m:Nat) (kp:List Nat) (q:Nat) (r:List (List V)):pK h m kp (.imm q r)=some (.imm q r):=rfl
theorem b9O (m:Nat) (kp:List Nat) (f:FuncId):pK h m kp (.fn f [])=some (.fn f []):=rfl
theorem a54 (m:Nat) (kp:List Nat):pK h m kp .undef=some .undef:=rfl
def b7C:Option (V×List Nat)->Option V
 |some (v,_)=>some v
 |none=>none
def fcO (h:b8) (m:Nat) (kp:List Nat) (b s q:Nat):Option V:=br (Nat.blt b m) (some (.sl b s q)) (br (kp.contains b) (some (.sl (m+kK b kp) s q)) (b7C (pu h (.sl b s q))))
theorem PI (m:Nat) (kp:List Nat) (b s q:Nat):pK h m kp (.sl b s q)=fcO h m kp b s q:=by
 simp only [pK,fcO,EV,b7C]
 by_cases a:b<m
 ·simp [a,br]
 ·by_cases c:b∈kp
  ·simp [a,c,br]
  ·d:kp.contains b=false:=by simpa using c
   simp only [a,c,this,if_false,decide_false,ba]
   cases pu h (.sl b s q)<;>rfl
theorem b5B (m:Nat) (kp:List Nat) (b s q:Nat):ET h m kp (.sl b s q)=fcO h m kp b s q:=PI m kp b s q
theorem c5g (m:Nat) (kp:List Nat) (b s q:Nat):fcO h m kp b s q=br (Nat.blt b m) (some (.sl b s q)) (br (kp.contains b) (some (.sl (m+kK b kp) s q)) (b7C (pu h (.sl b s q)))):=rfl
theorem a9S (v:V) (bs:List Nat):b7C (some (v,bs))=some v:=rfl
def fcP (m:Nat) (kp:List Nat) (b i o q:Nat):Option V:=br (Nat.blt b m) (some (.ptr b i o q)) (br (kp.contains b) (some (.ptr (m+kK b kp) i o q)) none)
theorem PX (m:Nat) (kp:List Nat) (b i o q:Nat):pK h m kp (.ptr b i o q)=fcP m kp b i o q:=by
 simp only [pK,fcP,EV]
 by_cases a:b<m
 ·simp [a,br]
 ·by_cases c:b∈kp
  ·simp [a,c,br]
  ·d:kp.contains b=false:=by simpa using c
   simp [a,c,this,br]
theorem b6h (m:Nat) (kp:List Nat) (b i o q:Nat):ET h m kp (.ptr b i o q)=fcP m kp b i o q:=PX (h:=h) m kp b i o q
theorem c4Y (m:Nat) (kp:List Nat) (b i o q:Nat):fcP m kp b i o q=br (Nat.blt b m) (some (.ptr b i o q)) (br (kp.contains b) (some (.ptr (m+kK b kp) i o q)) none):=rfl
def fb2:Option Blk->Option (List Blk)->Option (List Blk)
 |some k,some r=>some (k::r)
 |_,_=>none
def fb1 (h:b8) (m:Nat) (kp r:List Nat):Option Blk->Option (List Blk)
 |some k=>fb2 (SJ h m kp k) (vk h m kp r)
 |none=>none
theorem a9a (m:Nat) (kp:List Nat):vk h m kp []=some []:=rfl
theorem a4h (m:Nat) (kp:List Nat) (b:Nat) (r:List Nat):vk h m kp (b::r)=fb1 h m kp r (h b):=by
 simp only [vk,fb1,fb2]
 cases h b with
 |none=>rfl
 |some k=>dsimp only;cases SJ h m kp k<;>cases vk h m kp r<;>rfl
theorem b62 (m:Nat) (kp r:List Nat) (k:Blk):fb1 h m kp r (some k)=fb2 (SJ h m kp k) (vk h m kp r):=rfl
theorem b3O (k:Blk) (r:List Blk):fb2 (some k) (some r)=some (k::r):=rfl
theorem c1m (m:Nat) (kp:List Nat) (q:Nat) (r:List (List V)):SJ h m kp ⟨q,false,r⟩=some ⟨q,false,r⟩:=rfl
def fbO (q:Nat):Option (List V)->Option Blk
 |some row=>some ⟨q,true,[row]⟩
 |none=>none
theorem b0z (m:Nat) (kp:List Nat):Ak h m kp []=some []:=rfl
theorem ye (m:Nat) (kp:List Nat) (v:V) (r:List V):Ak h m kp (v::r)=rs1 (Hx h m kp v) (Ak h m kp r):=by
 simp only [Ak,rs1]
 cases Hx h m kp v<;>cases Ak h m kp r<;>rfl
def fnR (f:FuncId):Option (List V)->Option V
 |some cs=>some (.fn f cs)
 |none=>none
theorem b4e (f:FuncId) (cs:List V):fnR f (some cs)=some (.fn f cs):=rfl
theorem b4A (m:Nat) (kp:List Nat) (f:FuncId):Hx h m kp (.fn f [])=some (.fn f []):=rfl
theorem b7q (m:Nat) (kp:List Nat) (f:FuncId) (c:V) (cs:List V):Hx h m kp (.fn f (c::cs))=fnR f (wz h m kp (c::cs)):=by
 simp only [Hx,fnR]
 cases wz h m kp (c::cs)<;>rfl
theorem b4a (m:Nat) (kp:List Nat) (v:Value):Hx h m kp (.lit v)=some (.lit v):=rfl
theorem b5g (m:Nat) (kp:List Nat) (q:Nat) (r:List (List V)):Hx h m kp (.imm q r)=some (.imm q r):=rfl
theorem a4m (m:Nat) (kp:List Nat):Hx h m kp .undef=some .undef:=rfl
theorem a9z (m:Nat) (kp:List Nat) (r:List V) (o:Nat):Hx h m kp (.iptr r o)=some (.iptr r o):=rfl
theorem b5Y (m:Nat) (kp:List Nat) (b s q:Nat):Hx h m kp (.sl b s q)=fcO h m kp b s q:=PI m kp b s q
theorem b3h (m:Nat) (kp:List Nat) (b i o q:Nat):Hx h m kp (.ptr b i o q)=fcP m kp b i o q:=PX (h:=h) m kp b i o q
theorem b7z (m:Nat) (kp:List Nat) (q:Nat) (row:List V):SJ h m kp ⟨q,true,[row]⟩=fbO q (Ak h m kp row):=by
 simp only [SJ,uq,fbO]
 cases Ak h m kp row<;>rfl
theorem b6c (q:Nat) (row:List V):fbO q (some row)=some ⟨q,true,[row]⟩:=rfl
theorem b2v (t u:Nat) (v:V) (r:List (Nat×V)) (m:List (Nat×Blk)):St.get ⟨(u,v)::r,m⟩ t=if u=t then v else St.get ⟨r,m⟩ t:=by
 simp only [St.get,dP]
 split<;>rfl
theorem b9c (t:Nat) (m:List (Nat×Blk)):St.get ⟨[],m⟩ t= .undef:=rfl
theorem a8z (b c:Nat) (k:Blk) (r:List (Nat×Blk)) (x:List (Nat×V)):St.heap ⟨x,(c,k)::r⟩ b=if c=b then some k else St.heap ⟨x,r⟩ b:=rfl
theorem b5Q (b:Nat) (x:List (Nat×V)):St.heap ⟨x,[]⟩ b=none:=rfl
theorem b3F (x:List (Nat×V)) (m:List (Nat×Blk)) (d:Nat) (v:V):St.put ⟨x,m⟩ (some d) v=⟨(d,v)::x,m⟩:=rfl
theorem b2u (st:St) (v:V):st.put none v=st:=rfl
theorem c46 (x:List (Nat×V)) (m:List (Nat×Blk)) (u:Upd):St.upd ⟨x,m⟩ u=⟨x,a2X m u⟩:=rfl
theorem b9s (st:St):st.upd []=st:=rfl
theorem b1Z (m:List (Nat×Blk)):a2X m []=m:=rfl
theorem a8T (m:List (Nat×Blk)) (b:Nat) (k:Blk) (r:Upd):a2X m ((b,k)::r)=a2X (j9 b k m) r:=rfl
theorem b1t {β:Type} (k:Nat) (v:β):j9 k v []=[(k,v)]:=rfl
theorem a8q {β:Type} (k j:Nat) (v u:β) (r:List (Nat×β)):j9 k v ((j,u)::r)=if j=k then (j,v)::r else (j,u)::j9 k v r:=rfl
theorem c8j (st:St) (t:Nat):st.ev (.t t)=st.get t:=rfl
theorem c8k (st:St) (v:Value):st.ev (.c v)= .lit v:=rfl
theorem c8v (st:St) (f:FuncId):st.ev (.f f)= .fn f []:=rfl
theorem b82 (live:List Nat) (x:List (Nat×V)) (m:List (Nat×Blk)):trim live ⟨x,m⟩=⟨live.map fun t=>(t,St.get ⟨x,m⟩ t),m⟩:=rfl
theorem a5k {β:Type} (n:Nat):qK n ([]:List β)=[]:=rfl
theorem a2B {β:Type} (n:Nat) (x:β) (r:List β):qK n (x::r)=(n,x)::qK (n+1) r:=rfl
theorem start_eq (a:List V) (b:List Blk):start a b=⟨qK 0 a,qK 0 b⟩:=rfl
theorem a2I:iG ev []=[]:=rfl
theorem Zk (a b:Nat) (x:Opd) (r:List (Nat×Nat×Opd)):iG ev ((a,b,x)::r)=(a,b,ev x)::iG ev r:=rfl
theorem a8X (cs:List V):Oc cs []=some cs:=rfl
theorem a6o (cs:List V) (off size:Nat) (v:V) (r:List (Nat×Nat×V)):Oc cs ((off,size,v)::r)=br (Nat.beq v.cells.length size&&Nat.ble (off+size) cs.length&&v.cells.all V.cell) (Oc (cs.take off++(v.cells++cs.drop (off+size))) r) none:=rfl
theorem a9t (m:Nat) (r:List (List V)):Lv m r []=some r:=rfl
theorem a5T (m:Nat) (rows:List (List V)) (i:Nat) (v:V) (r:List (Nat×V)):Lv m rows ((i,v)::r)=br (Nat.beq v.cells.length m&&(Nat.blt i rows.length&&v.cells.all V.cell)) (Lv m (rows.set i v.cells) r) none:=rfl
theorem a8m (cs:List V):(V.agg cs).cells=cs:=rfl
theorem Wi (v:Value):(V.lit v).cells=[.lit v]:=rfl
theorem a8c (m:Nat) (r:List (List V)):(V.imm m r).cells=[.imm m r]:=rfl
theorem a83 (b s q:Nat):(V.sl b s q).cells=[.sl b s q]:=rfl
theorem b0l (b i o m:Nat):(V.ptr b i o m).cells=[.ptr b i o m]:=rfl
theorem a5u (r:List V) (o:Nat):(V.iptr r o).cells=[.iptr r o]:=rfl
theorem b5U (f:FuncId) (cs:List V):(V.fn f cs).cells=[.fn f cs]:=rfl
theorem a1g (k:IntKind) (a:Int):(V.lit (.int k a)).cell=true:=rfl
theorem a7T (a:Bool):(V.lit (.bool a)).cell=true:=rfl
theorem b1T (a:ByteArray):(V.lit (.string a)).cell=true:=rfl
theorem b6B (a:Option Addr) (n m:Nat):(V.lit (.slice a n m)).cell=true:=rfl
theorem b28 (m:Nat) (r:List (List V)):(V.imm m r).cell=true:=rfl
theorem b1G (b s q:Nat):(V.sl b s q).cell=true:=rfl
theorem b3e (b i o m:Nat):(V.ptr b i o m).cell=true:=rfl
theorem b0m (r:List V) (o:Nat):(V.iptr r o).cell=true:=rfl
theorem c07 (f:FuncId) (cs:List V):(V.fn f cs).cell=true:=rfl
theorem c0c (k:IntKind) (a:Int):ci (.int k a)=true:=rfl
theorem b5C (a:Bool):ci (.bool a)=true:=rfl
theorem c1o (a:ByteArray):ci (.string a)=true:=rfl
theorem b81 (a:Option Addr) (n m:Nat):ci (.slice a n m)=true:=rfl
theorem c0p (a:Option Addr):ci (.pointer a)=true:=rfl
theorem b0S:iS []=[]:=rfl
theorem a4X (b:Nat) (r:List Nat):iS (b::r)=(b,my)::iS r:=rfl
theorem b7Y (ids:List Nat):nH ids []=[]:=by cases ids<;>rfl
theorem b37 (i:Nat) (ids:List Nat) (k:Blk) (r:List Blk):nH (i::ids) (k::r)=(i,k)::nH ids r:=rfl
theorem b54 (b x:Nat) (r:List Nat):kK b (x::r)=if x=b then 0 else kK b r+1:=rfl
theorem a6r (b:Nat):gj [] b=[b]:=rfl
theorem a8K (ids:List Nat) (b:Nat):gj ids b=br (ids.contains b) ids (ids++[b]):=by
 unfold gj
 by_cases h:b∈ids<;>simp [h,br]
theorem c56:List.range 1=[0]:=rfl
theorem c4W:List.range 2=[0,1]:=rfl
theorem c4S:List.range 3=[0,1,2]:=rfl
theorem c3u:List.range 4=[0,1,2,3]:=rfl
theorem b6d (v:V):Xk [v]=v:=rfl
theorem b6k:Xk []= .tup []:=rfl
theorem b35 (a b:V) (r:List V):Xk (a::b::r)= .tup (a::b::r):=rfl
theorem a5D (o:List Nat) (a:List V):u5 o a=br (o.contains 1000) a (a.map V.czA):=by
 unfold u5;cases o.contains 1000<;>rfl
theorem a4b (o:List Nat) (a:List Blk):uR o a=br (o.contains 1000) a (a.map Blk.cz):=by
 unfold uR;cases o.contains 1000<;>rfl
theorem a9V (a:Nat) (r:List Nat):(a::r).getD 0 0=a:=rfl
theorem b0A (a n:Nat) (r:List Nat):(a::r).getD (n+1) 0=r.getD n 0:=rfl
def a63 (st:St) (bs:List Nat):St:={ e:=Rx (fzA st.heap bs) st.e,m:=fzM st.heap bs st.m }
theorem b30 (st:St) (bs:List Nat):dd st (.close bs)=br (bs.all (fun b=>Nat.ble 1000 b)) (some (a63 st bs)) none:=by
 simp only [dd,a63,Ki]
 cases bs.all (fun b=>decide (1000<=b))<;>rfl
theorem a9J (x:List (Nat×V)) (m:List (Nat×Blk)) (bs:List Nat):a63 ⟨x,m⟩ bs=⟨Rx (fzA (St.heap ⟨x,m⟩) bs) x,fzM (St.heap ⟨x,m⟩) bs m⟩:=rfl
theorem b33 (g:V->V):Rx g []=[]:=rfl
theorem a9f (g:V->V) (t:Nat) (v:V) (r:List (Nat×V)):Rx g ((t,v)::r)=(t,g v)::Rx g r:=rfl
variable {bs:List Nat}
theorem c4E (v:Value):fzA h bs (.lit v)= .lit v:=rfl
theorem c2J (m:Nat) (r:List (List V)):fzA h bs (.imm m r)= .imm m r:=rfl
theorem b77 (r:List V) (o:Nat):fzA h bs (.iptr r o)= .iptr r o:=rfl
theorem b6q:fzA h bs .undef= .undef:=rfl
theorem c3C (vs:List V):fzA h bs (.tup vs)= .undef:=rfl
def fzO:Option (V×List Nat)->V
 |some (v,_)=>v.cz
 |none=> .undef
theorem b2I (b s q:Nat):fzA h bs (.sl b s q)=br (bs.contains b) (fzO (pu h (.sl b s q))) (.sl b s q):=by
 simp only [fzA,fzC,fzO]
 by_cases a:b∈bs
 ·simp [a,br];cases pu h (.sl b s q)<;>rfl
 ·simp [a,br]
theorem b4T (b i o m:Nat):fzA h bs (.ptr b i o m)=br (bs.contains b) .undef (.ptr b i o m):=by
 simp only [fzA,fzC]
 by_cases a:b∈bs<;>simp [a,br]
theorem b6A (v:V) (b:List Nat):fzO (some (v,b))=v.cz:=rfl
theorem c6b (cs:List V):fzA h bs (.agg cs)=br ((cs.map (fzC h bs)).all V.cell) (.agg (cs.map (fzC h bs))) .undef:=by
 simp only [fzA]
 cases (cs.map (fzC h bs)).all V.cell<;>rfl
theorem c1M (f:FuncId) (cs:List V):fzA h bs (.fn f cs)=br (cs.all okC&& !(cs.flatMap si).any (fun b=>bs.contains b)) (.fn f cs) .undef:=by
 simp only [fzA,fzC]
 a:(fun b=>decide (b∈bs))=fun b=>bs.contains b:=by funext b;simp [pn]
 rw [this]
 cases (cs.all okC&& !(cs.flatMap si).any (fun b=>bs.contains b))<;>rfl
theorem c0m (v:Value):fzC h bs (.lit v)= .lit v:=rfl
theorem c0S (m:Nat) (r:List (List V)):fzC h bs (.imm m r)= .imm m r:=rfl
theorem c3J (f:FuncId) (cs:List V):fzC h bs (.fn f cs)=br (cs.all okC&& !(cs.flatMap si).any (fun b=>bs.contains b)) (.fn f cs) .undef:=c1M (h:=h) f cs
theorem c1b (b i o m:Nat):okC (.ptr b i o m)=true:=rfl
theorem b8l (b s q:Nat):okC (.sl b s q)=true:=rfl
theorem c1p (v:Value):okC (.lit v)=true:=rfl
theorem b83 (m:Nat) (r:List (List V)):okC (.imm m r)=true:=rfl
theorem c3R (f:FuncId):okC (.fn f [])=true:=rfl
theorem b61 (r:List V) (o:Nat):fzC h bs (.iptr r o)= .iptr r o:=rfl
theorem c0J (b s q:Nat):fzC h bs (.sl b s q)=br (bs.contains b) (fzO (pu h (.sl b s q))) (.sl b s q):=b2I b s q
theorem b7E (b i o m:Nat):fzC h bs (.ptr b i o m)=br (bs.contains b) .undef (.ptr b i o m):=b4T (h:=h) b i o m
theorem b9b:fzM h bs []=[]:=rfl
def fzK (h:b8) (bs:List Nat) (k:Blk):Blk:=if k.op then (if (k.rows.map (·.map (fzC h bs))).all (·.all V.cell) then { k with rows:=k.rows.map (·.map (fzC h bs)) } else my) else k
theorem b1u (b:Nat) (k:Blk) (r:List (Nat×Blk)):fzM h bs ((b,k)::r)=br (bs.contains b) (fzM h bs r) ((b,fzK h bs k)::fzM h bs r):=by
 simp only [fzM,fzK]
 by_cases a:b∈bs<;>simp [a,br]
theorem c3s (m:Nat) (r:List (List V)):fzK h bs ⟨m,false,r⟩=⟨m,false,r⟩:=rfl
theorem c5m (m:Nat) (row:List V):fzK h bs ⟨m,true,[row]⟩=br ((row.map (fzC h bs)).all V.cell) ⟨m,true,[row.map (fzC h bs)]⟩ my:=by
 simp only [fzK,aP,dL,cj,ox,fy,if_true]
 cases (row.map (fzC h bs)).all V.cell<;>rfl
section
variable {R:Type} {T:Tab} {ow:ec} {k:bR->St->Option R} {d:Option Nat} {n:Nat} {ss:List cn} {live:List Nat} {K:List Fr} {st:St} {base i:Nat} {deps:List (List Nat)} {rs:List Rec} {fp:List Nat} {r:R}
theorem yG {fl ro:Bool} {h:b8} {new:Nat} {ids bor:List Nat} {x:Option (V×List Blk)} {p:V×List Blk} (a:x=some p) (b:aft T ow k d n ss live K st (ND fl ro h new ids bor (some p))=some r):aft T ow k d n ss live K st (ND fl ro h new ids bor x)=some r:=by
 rw [a];exact b
theorem og {fl ro:Bool} {h:b8} {new:Nat} {ids bor:List Nat} {x:Option (V×List Blk)} {p:V×List Blk} (a:x=some p) (b:Ok T ow k d base i ss deps live rs K st fp (ND fl ro h new ids bor (some p))=some r):Ok T ow k d base i ss deps live rs K st fp (ND fl ro h new ids bor x)=some r:=by
 rw [a];exact b
theorem c6Z (b:Int):nn b=decide (0<=b):=rfl
theorem c7I (b:Int):nz b=decide (b≠0):=rfl
theorem c2z (i:Int) (n:Nat):inb i n=(decide (0<=i)&&decide (i.toNat<n)):=rfl
end
end
section
variable {ow:ec} {ev:Opd->V} {h:b8} {α:Type} {e:En α} {l:List α}
theorem c87 (x:Opd):ij ow (.mv x) ev h=[]:=rfl
theorem c6y (x:Opd):(AOp.mv x).opds=[x]:=rfl
theorem b7Z (c a b:Opd):ij ow (.pick c a b) ev h=((AOp.pick c a b).opds.map ev).flatMap gN:=rfl
theorem b9N (c a b:Opd):(AOp.pick c a b).opds=[c,a,b]:=rfl
theorem b5c (z:List Value):ij ow (.alloc z) ev h=((AOp.alloc z).opds.map ev).flatMap gN:=rfl
theorem b4f (z:List Value):(AOp.alloc z).opds=[]:=rfl
theorem c5K (m:Nat) (x:Opd):ij ow (.box m x) ev h=((AOp.box m x).opds.map ev).flatMap gN:=rfl
theorem c4D (m:Nat) (x:Opd):(AOp.box m x).opds=[x]:=rfl
theorem b1E (z:List Value) (ps:List (Nat×Nat×Opd)):ij ow (.build z ps) ev h=((AOp.build z ps).opds.map ev).flatMap gN:=rfl
theorem b2O (z:List Value) (ps:List (Nat×Nat×Opd)):(AOp.build z ps).opds=ps.map (·.2.2):=rfl
theorem U9 (m:Nat) (z:List Value) (l:Nat) (ps:List (Nat×Opd)):ij ow (.buildSlice m z l ps) ev h=((AOp.buildSlice m z l ps).opds.map ev).flatMap gN:=rfl
theorem TH (m:Nat) (z:List Value) (l:Nat) (ps:List (Nat×Opd)):(AOp.buildSlice m z l ps).opds=ps.map (·.2):=rfl
theorem b7s (g:Option Nat) (x:Opd):ij ow (.load g x) ev h=((AOp.load g x).opds.map ev).flatMap gN:=rfl
theorem b7g (g:Option Nat) (x:Opd):(AOp.load g x).opds=[x]:=rfl
theorem b4v (m:Nat) (x y:Opd):ij ow (.store m x y) ev h=((AOp.store m x y).opds.map ev).flatMap gN:=rfl
theorem b55 (m:Nat) (x y:Opd):(AOp.store m x y).opds=[x,y]:=rfl
theorem a1e (x:Opd):ij ow (.nilCheck x) ev h=((AOp.nilCheck x).opds.map ev).flatMap gN:=rfl
theorem a0l (x:Opd):(AOp.nilCheck x).opds=[x]:=rfl
theorem c2u (op:BinOp) (x y:Opd):ij ow (.bin op x y) ev h=((AOp.bin op x y).opds.map ev).flatMap gN:=rfl
theorem c5M (op:BinOp) (x y:Opd):(AOp.bin op x y).opds=[x,y]:=rfl
theorem b1q (b:Bool) (ks:List Bool) (x y:Opd):ij ow (.eqAgg b ks x y) ev h=((AOp.eqAgg b ks x y).opds.map ev).flatMap gN:=rfl
theorem b63 (b:Bool) (ks:List Bool) (x y:Opd):(AOp.eqAgg b ks x y).opds=[x,y]:=rfl
theorem c3l (b:Bool) (x y:Opd):ij ow (.beq b x y) ev h=((AOp.beq b x y).opds.map ev).flatMap gN:=rfl
theorem c5W (b:Bool) (x y:Opd):(AOp.beq b x y).opds=[x,y]:=rfl
theorem c6G (op:UnOp) (x:Opd):ij ow (.un op x) ev h=((AOp.un op x).opds.map ev).flatMap gN:=rfl
theorem c6E (op:UnOp) (x:Opd):(AOp.un op x).opds=[x]:=rfl
theorem b5r (k:IntKind) (x:Opd):ij ow (.toInt k x) ev h=((AOp.toInt k x).opds.map ev).flatMap gN:=rfl
theorem b2J (k:IntKind) (x:Opd):(AOp.toInt k x).opds=[x]:=rfl
theorem b9k (x:Opd):ij ow (.same x) ev h=((AOp.same x).opds.map ev).flatMap gN:=rfl
theorem b8U (x:Opd):(AOp.same x).opds=[x]:=rfl
theorem a4R (x:Opd):ij ow (.toBytes x) ev h=((AOp.toBytes x).opds.map ev).flatMap gN:=rfl
theorem a5Q (x:Opd):(AOp.toBytes x).opds=[x]:=rfl
theorem b2n (x:Opd):ij ow (.toStr x) ev h=((AOp.toStr x).opds.map ev).flatMap gN:=rfl
theorem b5J (x:Opd):(AOp.toStr x).opds=[x]:=rfl
theorem a2P (f:FuncId) (cs:List Opd):ij ow (.makeFunc f cs) ev h=[]:=rfl
theorem a2e (f:FuncId) (cs:List Opd):(AOp.makeFunc f cs).opds=cs:=rfl
theorem XG (m b:Nat) (z:List Value) (x y:Opd):ij ow (.makeSlice m b z x y) ev h=((AOp.makeSlice m b z x y).opds.map ev).flatMap gN:=rfl
theorem XX (m b:Nat) (z:List Value) (x y:Opd):(AOp.makeSlice m b z x y).opds=[x,y]:=rfl
theorem a0h (x:Opd) (lo hi:Option Opd):ij ow (.sliceStr x lo hi) ev h=((AOp.sliceStr x lo hi).opds.map ev).flatMap gN:=rfl
theorem a2A (x:Opd) (lo hi:Option Opd):(AOp.sliceStr x lo hi).opds=x::(KC lo++KC hi):=rfl
theorem b6r (m:Nat) (x:Opd) (lo hi mx:Option Opd):ij ow (.slice m x lo hi mx) ev h=((AOp.slice m x lo hi mx).opds.map ev).flatMap gN:=rfl
theorem b3C (m:Nat) (x:Opd) (lo hi mx:Option Opd):(AOp.slice m x lo hi mx).opds=x::(KC lo++(KC hi++KC mx)):=rfl
theorem c3z (m:Nat) (x:Opd):ij ow (.off m x) ev h=[]:=rfl
theorem c5Z (m:Nat) (x:Opd):(AOp.off m x).opds=[x]:=rfl
theorem b1y (m:Nat) (g:Option Nat) (x:Opd):ij ow (.field m g x) ev h=((AOp.field m g x).opds.map ev).flatMap gN:=rfl
theorem b4w (m:Nat) (g:Option Nat) (x:Opd):(AOp.field m g x).opds=[x]:=rfl
theorem c4g (m:Nat) (x y:Opd):ij ow (.idx m x y) ev h=((AOp.idx m x y).opds.map ev).flatMap gN:=rfl
theorem c5t (m:Nat) (x y:Opd):(AOp.idx m x y).opds=[x,y]:=rfl
theorem a7Z (m q:Nat) (x y:Opd):ij ow (.idxArr m q x y) ev h=((AOp.idxArr m q x y).opds.map ev).flatMap gN:=rfl
theorem b0D (m q:Nat) (x y:Opd):(AOp.idxArr m q x y).opds=[x,y]:=rfl
theorem b1Y (x y:Opd):ij ow (.ixStr x y) ev h=((AOp.ixStr x y).opds.map ev).flatMap gN:=rfl
theorem b50 (x y:Opd):(AOp.ixStr x y).opds=[x,y]:=rfl
theorem b3n (m q:Nat) (g:Option Nat) (x y:Opd):ij ow (.ixAgg m q g x y) ev h=((AOp.ixAgg m q g x y).opds.map ev).flatMap gN:=rfl
theorem b3Q (m q:Nat) (g:Option Nat) (x y:Opd):(AOp.ixAgg m q g x y).opds=[x,y]:=rfl
theorem c2p (x:Opd) (i:Nat):ij ow (.ext x i) ev h=[]:=rfl
theorem c5k (x:Opd) (i:Nat):(AOp.ext x i).opds=[x]:=rfl
theorem c44 (b:Bool) (x:Opd):ij ow (.len b x) ev h=[]:=rfl
theorem c3Q (b:Bool) (x:Opd):(AOp.len b x).opds=[x]:=rfl
theorem a9k (m:Nat) (x:Opd):ij ow (.lenArr m x) ev h=((AOp.lenArr m x).opds.map ev).flatMap gN:=rfl
theorem b0B (m:Nat) (x:Opd):(AOp.lenArr m x).opds=[x]:=rfl
theorem a3U (m b:Nat) (z:List Value) (x y:Opd):ij ow (.appendN m b z x y) ev h=((AOp.appendN m b z x y).opds.map ev).flatMap gN:=rfl
theorem a5j (m b:Nat) (z:List Value) (x y:Opd):(AOp.appendN m b z x y).opds=[x,y]:=rfl
theorem b4t (b:Bool) (x:Opd):ij ow (.isNil b x) ev h=((AOp.isNil b x).opds.map ev).flatMap gN:=rfl
theorem b3D (b:Bool) (x:Opd):(AOp.isNil b x).opds=[x]:=rfl
theorem a91 (m b:Nat) (z:List Value) (x y:Opd):ij ow (.append m b z x y) ev h=((AOp.append m b z x y).opds.map ev).flatMap gN:=rfl
theorem a93 (m b:Nat) (z:List Value) (x y:Opd):(AOp.append m b z x y).opds=[x,y]:=rfl
theorem b9C (m:Nat) (x y:Opd):ij ow (.copy m x y) ev h=((AOp.copy m x y).opds.map ev).flatMap gN:=rfl
theorem c0H (m:Nat) (x y:Opd):(AOp.copy m x y).opds=[x,y]:=rfl
theorem b8R (x y:Opd):ij ow (.max2 x y) ev h=((AOp.max2 x y).opds.map ev).flatMap gN:=rfl
theorem b7A (x y:Opd):(AOp.max2 x y).opds=[x,y]:=rfl
theorem c1G (x y:Opd):ij ow (.min2 x y) ev h=((AOp.min2 x y).opds.map ev).flatMap gN:=rfl
theorem b7U (x y:Opd):(AOp.min2 x y).opds=[x,y]:=rfl
theorem ZX (x:Opd):ij ow (.bytesOwn x) ev h=((AOp.bytesOwn x).opds.map ev).flatMap gN:=rfl
theorem a1I (x:Opd):(AOp.bytesOwn x).opds=[x]:=rfl
theorem b2p (m:Nat) (x:Opd):ij ow (.arrOf m x) ev h=((AOp.arrOf m x).opds.map ev).flatMap gN:=rfl
theorem b4K (m:Nat) (x:Opd):(AOp.arrOf m x).opds=[x]:=rfl
theorem c57 (x:Opd):KC (some x)=[x]:=rfl
theorem c52:KC none=[]:=rfl
def fpC:Option (List V×List Blk×List Nat×List Nat)->List Nat
 |some (_,_,ids,bor)=>ids++bor
 |none=>[]
theorem b1L (a:List V) (b:List Blk) (ids bor:List Nat):fpC (some (a,b,ids,bor))=ids++bor:=rfl
theorem b7F (f:FuncId) (args:List Opd):ij ow (.call f args) ev h=fpC (fi ow h f (args.map ev)):=by
 show Md ow h f (args.map ev)=_
 unfold Md fpC
 cases fi ow h f (args.map ev)<;>rfl
def fpD (ow:ec) (h:b8) (args:List V):V->List Nat
 | .fn k caps=>fpC (fi ow h k (args++caps))
 |_=>[]
theorem c2H (f:Opd) (args:List Opd):ij ow (.dyn f args) ev h=fpD ow h (args.map ev) (ev f):=by
 show (match ev f with
  | .fn k caps=>Md ow h k (args.map ev++caps)
  |_=>[])=_
 cases ev f<;>first|rfl| (simp only [fpD,Md,fpC];cases fi ow h _ _<;>rfl)
theorem c6k (args:List V) (k:FuncId) (caps:List V):fpD ow h args (.fn k caps)=fpC (fi ow h k (args++caps)):=rfl
theorem b7O (cs:List V):gN (.agg cs)=cs.flatMap si:=rfl
theorem c6j (f:FuncId) (cs:List V):gN (.fn f cs)=cs.flatMap si:=rfl
theorem b9T (cs:List V):gN (.tup cs)=cs.flatMap fun| .agg cs=>cs.flatMap si|v=>si v:=rfl
theorem c0s (v:Value):gN (.lit v)=[]:=rfl
theorem b7j (m:Nat) (r:List (List V)):gN (.imm m r)=[]:=rfl
theorem b1A (r:List V) (o:Nat):gN (.iptr r o)=[]:=rfl
theorem b7o (b i o m:Nat):gN (.ptr b i o m)=[b]:=rfl
theorem b8a (b s q:Nat):gN (.sl b s q)=[b]:=rfl
theorem a7U:gN .undef=[]:=rfl
theorem b9I (v:Value):si (.lit v)=[]:=rfl
theorem b8A (m:Nat) (r:List (List V)):si (.imm m r)=[]:=rfl
theorem b65 (r:List V) (o:Nat):si (.iptr r o)=[]:=rfl
theorem c1a (b i o m:Nat):si (.ptr b i o m)=[b]:=rfl
theorem b9h (b s q:Nat):si (.sl b s q)=[b]:=rfl
theorem c4j (f:FuncId) (cs:List V):si (.fn f cs)=[]:=rfl
theorem a7X:si .undef=[]:=rfl
theorem a2m (fp:List Nat) (b:Nat):s3 h fp b=br (fp.contains b) (h b) none:=by
 unfold s3
 by_cases a:b∈fp<;>simp [a,br]
theorem b8y (rs:List Rec) (i:Nat) (fp wr:List Nat):a8s rs i fp wr=br (fp.isEmpty&&wr.isEmpty) rs (rs++[⟨i,fp,wr⟩]):=by
 a h:Rec.loud ⟨i,fp,wr⟩= !(fp.isEmpty&&wr.isEmpty):=rfl
 unfold a8s
 cases b:Rec.loud ⟨i,fp,wr⟩ with
 |true=>
  rw [b] at h
  a c:(fp.isEmpty&&wr.isEmpty)=false:=by
    cases d:fp.isEmpty&&wr.isEmpty with
    |false=>rfl
    |true=>rw [d] at h;cases h
  rw [c,ba,List.filter_cons_of_pos b];rfl
 |false=>
  rw [b] at h
  a c:(fp.isEmpty&&wr.isEmpty)=true:=by
    cases d:fp.isEmpty&&wr.isEmpty with
    |true=>rfl
    |false=>rw [d] at h;cases h
  rw [c,cL,List.filter_cons_of_neg (by rw [b];decide)];simp
theorem b06 (deps:List (List Nat)):pZ deps []=true:=rfl
theorem a44 (deps:List (List Nat)) (p:Rec) (r:List Rec):pZ deps (p::r)=(Fb deps p r&&pZ deps r):=rfl
theorem b8r (deps:List (List Nat)) (p:Rec):Fb deps p []=true:=rfl
theorem b5h (deps:List (List Nat)) (i j:Nat) (f g w u:List Nat) (r:List Rec):Fb deps ⟨i,f,w⟩ (⟨j,g,u⟩::r)=((w.isEmpty&&u.isEmpty||(deps.getD j []).contains i|| !(w.any (fun b=>decide (b∈g)||decide (b∈u))||u.any (fun b=>decide (b∈f))))&&Fb deps ⟨i,f,w⟩ r):=rfl
theorem a5r {β:Type} (a d:β) (r:List β):(a::r).getD 0 d=a:=rfl
theorem a6e {β:Type} (a d:β) (n:Nat) (r:List β):(a::r).getD (n+1) d=r.getD n d:=rfl
theorem b8P (m:Nat) (cs:List V) (n:Nat):c5q m cs h n=br (Nat.beq cs.length m&&cs.all V.cell) (frO (h n) n ⟨m,true,[cs]⟩ (.ptr n 0 0 1)) none:=rfl
theorem ak (x:Int) (a: -9223372036854775808<=x) (b:x<9223372036854775808):IntKind.wrap .i64 x=x:=by
 simp [IntKind.wrap,IntKind.bits,IntKind.signed];omega
theorem ee (x:Int) (a:0<=x) (b:x<18446744073709551616):IntKind.wrap .u64 x=x:=by
 simp [IntKind.wrap,IntKind.bits,IntKind.signed];omega
theorem c0e (x:Int) (a:0<=x) (b:x<256):IntKind.wrap .u8 x=x:=by
 simp [IntKind.wrap,IntKind.bits,IntKind.signed];omega
theorem M5 (n:Nat):(OfNat.ofNat n:Int)=(n:Int):=rfl
theorem b2i (n:Nat) (h:Nat.ble n 9223372036854775807=true):IntKind.wrap .i64 (no_index (OfNat.ofNat n:Int))=OfNat.ofNat n:=by
 a b:=cD h
 rw [M5];exact ak _ (by omega) (by omega)
theorem b1f (n:Nat) (h:Nat.ble n 18446744073709551615=true):IntKind.wrap .u64 (no_index (OfNat.ofNat n:Int))=OfNat.ofNat n:=by
 a b:=cD h
 rw [M5];exact ee _ (by omega) (by omega)
theorem a9j (n:Nat) (h:Nat.ble n 255=true):IntKind.wrap .u8 (no_index (OfNat.ofNat n:Int))=OfNat.ofNat n:=by
 a b:=cD h
 rw [M5];exact c0e _ (by omega) (by omega)
theorem c5z (a b:Nat):(a==b)=decide (a=b):=by
 by_cases h:a=b
 ·subst h;simp
 ·rw [ag h];simpa using h
theorem c3y:List.range 0=[]:=rfl
theorem a3Z (m:Nat) (vs:List V):lZ true h m vs=DW m [] ((List.range m).flatMap fun b=>a4z (h b)):=rfl
theorem a8N (m:Nat) (vs:List V):lZ false h m vs=DW m [] (vs.flatMap gN):=rfl
theorem c0L (m:Nat) (row:List V):a4z (some ⟨m,true,[row]⟩)=row.flatMap gN:=by simp [a4z]
theorem b9q (m:Nat) (r:List (List V)):a4z (some ⟨m,false,r⟩)=[]:=rfl
theorem c3h:List.range 5=[0,1,2,3,4]:=rfl
theorem c2r:List.range 6=[0,1,2,3,4,5]:=rfl
theorem c3X:List.range 7=[0,1,2,3,4,5,6]:=rfl
theorem c2C:List.range 8=[0,1,2,3,4,5,6,7]:=rfl
theorem a9g (m:Nat) (acc:List Nat):DW m acc []=acc:=rfl
theorem a3S (m b:Nat) (acc r:List Nat):DW m acc (b::r)=DW m (br (Nat.ble m b) (gj acc b) acc) r:=by
 simp only [DW,Ki]
 by_cases h:m<=b<;>simp [h,br]
theorem a8L (n:Nat):Int.toNat (no_index (OfNat.ofNat n:Int))=OfNat.ofNat n:=rfl
end
end Go.AI
