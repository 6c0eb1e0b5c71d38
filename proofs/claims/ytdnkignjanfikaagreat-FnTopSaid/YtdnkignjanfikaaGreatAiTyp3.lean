/- Part. -/
import Derived.Test.YtdnkignjanfikaaGreatAiTyp2
set_option linter.unusedVariables false
set_option linter.unusedSimpArgs false
namespace Go.AI
section
variable {C:cr} {ow:FuncId->List Nat} {ev:Opd->V} {h:ba} {n:Nat} {α:Type} {e:En α} {l l2:List α}
def snO (k:Option Blk) (b s q:Nat):Option (V×List Nat):=match k with
 |some k=>if k.op=false/\0<k.esz/\s+q=k.rows.length then some (.imm k.esz (k.rows.drop s),[b]) else none
 |none=>none
theorem b0e (b s q:Nat):uO h (.sl b s q)=snO (h b) b s q:=rfl
theorem c2B (m b q:Nat) (h0:Nat.blt 0 m=true) (a:l.length=q):snO (some ⟨m,false,rws e l⟩) b 0 q=some (.imm m (rws e l),[b]):=by
 rw [Gq,aA] at h0
 simp [snO,rws,a,h0]
theorem b4O (k:IntKind) (a:Int):uO h (.lit (.int k a))=some (.lit (.int k a),[]):=rfl
theorem b1X (a:List UInt8):uO h (S a)=some (S a,[]):=rfl
def snC:Option (V×List Nat)->Option (List V×List Nat)->Option (List V×List Nat)
 |some (a,bs),some (r,bs')=>some (a.cz::r,bs++bs')
 |_,_=>none
theorem a8q:pK h []=some ([],[]):=rfl
theorem a3x (v:V) (r:List V):pK h (v::r)=snC (uO h v) (pK h r):=by
 simp only [pK,snC]
 cases uO h v<;>cases pK h r<;>rfl
theorem b31 (a:V) (bs:List Nat) (r:List V) (bs':List Nat):snC (some (a,bs)) (some (r,bs'))=some (a.cz::r,bs++bs'):=rfl
theorem c2W (k:IntKind) (a:Int):(V.lit (.int k a)).cz= .lit (.int k a):=rfl
theorem c3I (a:List UInt8):(S a).cz=S a:=rfl
theorem c1w:(V.lit (.slice none 0 0)).cz= .imm 1 []:=rfl
theorem c3g (b i o m:Nat):(V.ptr b i o m).cz= .ptr b i o m:=rfl
theorem c2L (b s q:Nat):(V.sl b s q).cz= .sl b s q:=rfl
theorem c55 (f:FuncId) (cs:List V):(V.fn f cs).cz= .fn f cs:=rfl
theorem b7l (cs:List V):(V.agg cs).czA= .agg (cs.map V.cz):=rfl
theorem b8E (k:IntKind) (a:Int):(V.lit (.int k a)).czA= .lit (.int k a):=rfl
theorem b1c (a:Bool):(V.lit (.bool a)).czA= .lit (.bool a):=rfl
theorem b8y (a:List UInt8):(S a).czA=S a:=rfl
theorem b9x:(V.lit (.slice none 0 0)).czA= .imm 1 []:=rfl
theorem b8F (m:Nat) (r:List (List V)):(V.imm m r).czA=(V.imm m r).cz:=rfl
theorem b7h (b i o m:Nat):(V.ptr b i o m).czA= .ptr b i o m:=rfl
theorem b7I (b s q:Nat):(V.sl b s q).czA= .sl b s q:=rfl
theorem c44 (f:FuncId) (cs:List V):(V.fn f cs).czA= .fn f cs:=rfl
theorem b7N (cs:List V):(V.tup cs).czR= .tup (cs.map V.czA):=rfl
theorem b7Q (cs:List V):(V.agg cs).czR= .agg (cs.map V.cz):=rfl
theorem b78 (k:IntKind) (a:Int):(V.lit (.int k a)).czR= .lit (.int k a):=rfl
theorem b5y (a:Bool):(V.lit (.bool a)).czR= .lit (.bool a):=rfl
theorem b8A (a:List UInt8):(S a).czR=S a:=rfl
theorem b6s (m:Nat) (r:List (List V)):(V.imm m r).czR=(V.imm m r).cz:=rfl
theorem b6y (b i o m:Nat):(V.ptr b i o m).czR= .ptr b i o m:=rfl
theorem b7t (b s q:Nat):(V.sl b s q).czR= .sl b s q:=rfl
theorem b52 (m:Nat) (row:List V):Blk.cz ⟨m,true,[row]⟩=⟨m,true,[row.map V.cz]⟩:=rfl
theorem b2P (m:Nat) (r:List (List V)):Blk.cz ⟨m,false,r⟩=⟨m,false,r⟩:=rfl
theorem c1F (k:IntKind) (a:Int):zc (.int k a)= .lit (.int k a):=rfl
theorem c4a (a:List UInt8):zc (.string ⟨⟨a⟩⟩)=S a:=rfl
theorem c3e:zc (.slice none 0 0)= .imm 1 []:=rfl
def stO (k:Option Blk) (b size i o m:Nat) (x:V) (h:ba):Option (V×Upd):=match k with
 |some k=>if k.rows.length=m then (match k.rows[i]? with
  |some row=>
   if k.op then
    (if x.cells.length=size/\o+size<=row.length/\x.cells.all V.cell then
     some (.undef,[(b,{ k with rows:=k.rows.set i (row.take o++(x.cells++row.drop (o+size))) })]) else none)
   else match pK h x.cells with
    |some (cs,bs)=>if cs.length=size/\o+size<=row.length/\ ¬b∈bs then
     some (.undef,ka bs++[(b,{ k with rows:=k.rows.set i (row.take o++(cs++row.drop (o+size))) })]) else none
    |none=>none
  |none=>none) else none
 |none=>none
def a3Q (size:Nat) (a x:V) (h:ba):Option (V×Upd):=match a with
 | .ptr b i o m=>stO (h b) b size i o m x h
 |_=>none
theorem b9f (size:Nat) (a x:Opd):aK C ow (.store size a x) ev h n=a3Q size (ev a) (ev x) h:=by
 simp only [aK,a3Q,stO]
 cases ev a with
 |ptr b i o m=>dsimp only;cases h b<;>rfl
 |_=>rfl
theorem b1K (size b i o m:Nat) (x:V):a3Q size (.ptr b i o m) x h=stO (h b) b size i o m x h:=rfl
theorem a2k (m b size o:Nat) (row:List V) (x:V):stO (some ⟨m,true,[row]⟩) b size 0 o 1 x h=
 br (Nat.beq x.cells.length size&&(Nat.ble (o+size) row.length&&x.cells.all V.cell)) (some (.undef,[(b,⟨m,true,[row.take o++(x.cells++row.drop (o+size))]⟩)])) none:=by
 rw [L0,KX]
 by_cases a:x.cells.length=size<;>by_cases c:o+size<=row.length<;>cases d:x.cells.all V.cell<;>simp [stO,a,c,d,br]
def stT (r:List (List V)) (m b size i o:Nat) (row:List V):Option (List V×List Nat)->Option (V×Upd)
 |some (cs,bs)=>br (Nat.beq cs.length size&&(Nat.ble (o+size) row.length&& !bs.contains b)) (some (.undef,ka bs++[(b,⟨m,false,Gg r i (row.take o++(cs++row.drop (o+size)))⟩)])) none
 |none=>none
theorem Zs (r:List (List V)) (m b size i o:Nat) (row cs:List V) (bs:List Nat):stT r m b size i o row (some (cs,bs))=
 br (Nat.beq cs.length size&&(Nat.ble (o+size) row.length&& !bs.contains b)) (some (.undef,ka bs++[(b,⟨m,false,Gg r i (row.take o++(cs++row.drop (o+size)))⟩)])) none:=rfl
theorem c4m (m b size i o q:Nat) (x:V) (c:l.length=q):stO (some ⟨m,false,rws e l⟩) b size i o q x h=(l[i]?).bind (fun y=>stT (rws e l) m b size i o (e.enc y) (pK h x.cells)):=by
 simp only [stO]
 have:(rws e l).length=q:=by simp [rws,c]
 rw [aa this]
 have a:(rws e l)[i]? =(l[i]?).map e.enc:=by simp [rws]
 rw [a]
 cases j:l[i]? with
 |none=>rfl
 |some y=>
  simp only [fj,qP]
  cases k:pK h x.cells with
  |none=>simp [stT]
  |some p=>
   obtain ⟨cs,bs⟩:=p
   rw [Zs,L0,KX]
   by_cases d:cs.length=size<;>by_cases a:o+size<=(e.enc y).length<;>by_cases f:b∈bs<;>simp [d,a,f,br,Gg]
def psC (i:Nat):Option (List V×List Nat)->Option (List (Nat×V)×List Nat)->Option (List (Nat×V)×List Nat)
 |some (cs,bs),some (r',bs')=>some ((i,.agg cs)::r',bs++bs')
 |_,_=>none
theorem TN:fA h ev []=some ([],[]):=rfl
theorem Tv (i:Nat) (x:Opd) (r:List (Nat×Opd)):fA h ev ((i,x)::r)=psC i (pK h (ev x).cells) (fA h ev r):=by
 simp only [fA,psC]
 cases pK h (ev x).cells<;>cases fA h ev r<;>rfl
theorem b1d (i:Nat) (cs:List V) (bs:List Nat) (r:List (Nat×V)) (bs':List Nat):psC i (some (cs,bs)) (some (r,bs'))=some ((i,.agg cs)::r,bs++bs'):=rfl
def KU (esz:Nat) (rows:List (List V)):List (Nat×V)->Option (List (List V))
 |[]=>some rows
 | (i,v)::r=>br (Nat.beq v.cells.length esz&&(Nat.blt i rows.length&&v.cells.all V.cell)) (KU esz (rows.set i v.cells) r) none
theorem a0y (esz:Nat): ∀(ps:List (Nat×V)) (rows:List (List V)),T4 esz rows ps=KU esz rows ps
 |[],_=>rfl
 | (i,v)::r,rows=>by
   simp only [T4,KU,L0,Gq]
   rw [<-a0y esz r]
   by_cases a:v.cells.length=esz<;>by_cases b:i<rows.length<;>cases c:v.cells.all V.cell<;>simp [a,b,br]
def c43 (u0:Upd):Option (V×Upd)->Option (V×Upd)
 |some (v,u)=>some (v,u0++u)
 |none=>none
theorem a80 (a u:Upd) (v:V):c43 a (some (v,u))=some (v,a++u):=rfl
def bsR (esz len:Nat) (zero:List Value) (bs:List Nat) (h:ba) (n:Nat):Option (List (List V))->Option (V×Upd)
 |some rows=>br (Nat.beq zero.length esz&&(zero.all cD&&(Nat.ble (len*esz) 16777216&& !bs.contains n))) (c43 (ka bs) (frO (h n) n ⟨esz,false,mkR n rows⟩ (.sl n 0 len))) none
 |none=>none
def bsS (esz len:Nat) (zero:List Value) (h:ba) (n:Nat):Option (List (Nat×V)×List Nat)->Option (V×Upd)
 |some (ps,bs)=>bsR esz len zero bs h n (KU esz (List.replicate len (zero.map zc)) ps)
 |none=>none
theorem X5 (esz len:Nat) (zero:List Value) (ps:List (Nat×Opd)):aK C ow (.buildSlice esz zero len ps) ev h n=bsS esz len zero h n (fA h ev ps):=by
 simp only [aK,bsS,a0y,A6]
 cases fA h ev ps with
 |none=>rfl
 |some p=>
  obtain ⟨qs,bs⟩:=p
  dsimp only
  cases KU esz (List.replicate len (zero.map zc)) qs with
  |none=>rfl
  |some rows=>
   simp only [bsR,L0,KX,mkR]
   by_cases a:zero.length=esz<;>cases d:zero.all cD<;>by_cases b:len*esz<=16777216<;>by_cases c:n∈bs<;>simp [a,b,c,br]
   cases frO (h n) n ⟨esz,false,rows⟩ (.sl n 0 len)<;>rfl
theorem b0c (esz len:Nat) (zero:List Value) (ps:List (Nat×V)) (bs:List Nat):bsS esz len zero h n (some (ps,bs))=bsR esz len zero bs h n (KU esz (List.replicate len (zero.map zc)) ps):=rfl
theorem b4h (esz len:Nat) (zero:List Value) (bs:List Nat) (rows:List (List V)):bsR esz len zero bs h n (some rows)=br (Nat.beq zero.length esz&&(zero.all cD&&(Nat.ble (len*esz) 16777216&& !bs.contains n))) (c43 (ka bs) (frO (h n) n ⟨esz,false,mkR n rows⟩ (.sl n 0 len))) none:=rfl
def tbS (x:V) (h:ba) (n:Nat):Option (V×Upd):=match x with
 | .lit (.string s)=>if s.size<=dz then pc h n ⟨1,false,s.data.toList.map fun b=>[.lit (.int .u8 b.toNat)]⟩ (.sl n 0 s.size) else none
 |_=>none
theorem a9t (x:Opd):aK C ow (.toBytes x) ev h n=tbS (ev x) h n:=rfl
theorem c6q (s:List UInt8):tbS (S s) h n=br (bj s.length 1) (frO (h n) n ⟨1,false,rws eU8 s⟩ (.sl n 0 s.length)) none:=by
 simp only [tbS,Y9,bj,tR,A6]
 by_cases a:s.length<=dz<;>simp [a,br]
 rfl
def boS (x:V) (h:ba):Option (V×Upd):=match x with
 | .sl b s n=>match h b with
   |some k=>if k.op=false/\0<k.esz/\s+n=k.rows.length/\0<n then some (.sl b s n,[(b,k)]) else none
   |none=>none
 |_=>none
theorem a2f (x:Opd):aK C ow (.bytesOwn x) ev h n=boS (ev x) h:=rfl
def boO (k:Option Blk) (b s n:Nat):Option (V×Upd):=match k with
 |some k=>if k.op=false/\0<k.esz/\s+n=k.rows.length/\0<n then some (.sl b s n,[(b,k)]) else none
 |none=>none
theorem b8i (b s q:Nat):boS (.sl b s q) h=boO (h b) b s q:=rfl
theorem c2l (b m q:Nat) (h0:Nat.blt 0 m=true) (a:l.length=q):boO (some ⟨m,false,rws e l⟩) b 0 q=br (decide (0<q)) (some (.sl b 0 q,[(b,⟨m,false,rws e l⟩)])) none:=by
 rw [Gq,aA] at h0
 by_cases c:0<q<;>simp [boO,rws,a,h0,c,br]
theorem ZD (l:List UInt8):aK.bytesOf (rws eU8 l)=some l:=by
 induction l with
 |nil=>rfl
 |cons b l ih=>
  simp only [rws,aM,eU8] at ih ⊢
  simp only [aK.bytesOf]
  have a:(0:Int)<=(b.toNat:Int)/\(b.toNat:Int)<256:=⟨by omega,by have:=b.toNat_lt;omega⟩
  rw [aa a,ih]
  simp
noncomputable def tsR:Option (List (List V))->Option (V×Upd)
 |some rows=>match aK.bytesOf rows with
  |some l=>some (.lit (.string ⟨l.toArray⟩),[])
  |none=>none
 |none=>none
noncomputable def tsS (x:V) (h:ba):Option (V×Upd):=br (a6o x) none (tsR (fm h 1 x))
theorem b96 (x:Opd):aK C ow (.toStr x) ev h n=tsS (ev x) h:=by
 simp only [aK,tsS,tsR]
 cases a6o (ev x)
 ·simp only [bC,if_false,bu]
  cases fm h 1 (ev x)<;>rfl
 ·rfl
theorem b4k (l:List UInt8):tsR (some (rws eU8 l))=some (S l,[]):=by
 simp only [tsR,ZD]
theorem c4j (l:List UInt8):tsS (sl eU8 l) h=some (S l,[]):=by
 rw [tsS,YY,bu,Vq 1 rfl,b4k]
def roO (k:Option Blk) (m s q:Nat):Option (List (List V)):=match k with
 |some k=>if k.op=false/\0<k.esz/\k.esz=m/\s+q=k.rows.length then some (k.rows.drop s) else none
 |none=>none
theorem a2y (m b s q:Nat):fm h m (.sl b s q)=roO (h b) m s q:=rfl
theorem c1j (m q:Nat) (h0:Nat.blt 0 m=true) (a:l.length=q):roO (some ⟨m,false,rws e l⟩) m 0 q=some (rws e l):=by
 rw [Gq,aA] at h0
 simp [roO,rws,a,h0]
theorem a3L (s:List UInt8):fm h 1 (S s)=some (rws eU8 s):=rfl
theorem b6W (b s q:Nat):tsS (.sl b s q) h=tsR (roO (h b) 1 s q):=rfl
def c35 (esz bytes:Nat) (zero:List Value) (len cap:V) (h:ba) (n:Nat):Option (V×Upd):=match asI len,asI cap with
 |some l,some c=>if 0<=l/\l<=c/\c*bytes<=dz/\c*esz<=dz/\zero.length=esz/\zero.all cD then
  pc h n ⟨esz,false,List.replicate l.toNat (zero.map zc)⟩ (.sl n 0 l.toNat) else none
 |_,_=>none
theorem a0f (esz bytes:Nat) (zero:List Value) (len cap:Opd):aK C ow (.makeSlice esz bytes zero len cap) ev h n=c35 esz bytes zero (ev len) (ev cap) h n:=rfl
theorem c1d (esz bytes:Nat) (zero:List Value) (k k':IntKind) (a c:Int) (e:Nat.ble esz bytes=true) (f:Nat.beq zero.length esz=true) (b:zero.all cD=true):
 c35 esz bytes zero (.lit (.int k a)) (.lit (.int k' c)) h n=br (TU a c bytes) (frO (h n) n ⟨esz,false,Uh n a.toNat (zero.map zc)⟩ (.sl n 0 (a62 (Uh n a.toNat (zero.map zc))))) none:=by
 have d:=iZ f
 have i:=dG e
 simp only [c35,asI,TU,d,b,A6,Uh,a62,aL]
 by_cases j:0<=a<;>by_cases l:a<=c<;>by_cases m:c*bytes<=dz<;>simp [j,l,m,br]
 intro o
 exfalso
 have:c*esz<=c*bytes:=Int.mul_le_mul_of_nonneg_left om om
 omega
def slS (esz:Nat) (x:V) (lo hi mx:Option V) (h:ba):Option (V×Upd):=match mx with
 |some _=>none
 |none=>match x with
  | .lit (.slice none 0 0)=>match dM hi 0 0 with
    |some q=>match dM lo 0 q with
     |some _=>some (.lit (.slice none 0 0),[])
     |none=>none
    |none=>none
  | .sl b s n=>match h b with
    |some k=>if k.op=false/\0<k.esz/\k.esz=esz/\s+n=k.rows.length then (match dM hi n n with
     |some q=>match dM lo 0 q with
      |some p=>if q=n then some (.sl b (s+p) (n-p),[]) else some ((V.imm esz (((k.rows.drop s).take q).drop p)).cz,[(b,kf)])
      |none=>none
     |none=>none) else none
    |none=>none
  | .imm e rows=>if e=esz\/rows=[] then (match dM hi rows.length rows.length with
   |some q=>match dM lo 0 q with
    |some p=>some ((V.imm e ((rows.take q).drop p)).cz,[])
    |none=>none
   |none=>none) else none
  |_=>none
theorem b9h (esz:Nat) (x:Opd) (lo hi:Option Opd):aK C ow (.slice esz x lo hi none) ev h n=slS esz (ev x) (lo.map ev) (hi.map ev) none h:=rfl
theorem LS (d m:Nat):dM none d m=some d:=rfl
theorem Hu (k:IntKind) (i:Int) (d m:Nat):dM (some (.lit (.int k i))) d m=if 0<=i/\i<=m then some i.toNat else none:=rfl
theorem Xb (m:Nat) (b:e.esz=m) (lo hi:Option V):slS m (sl e l) lo hi none h=(match dM hi l.length l.length with
 |some q=>match dM lo 0 q with
  |some p=>some (sl e ((l.take q).drop p),[])
  |none=>none
 |none=>none):=by
 subst b
 rcases oZ e l with ⟨rfl,a⟩|⟨c,a⟩
 ·rw [a]
  simp only [slS,ah,or_true,if_true]
  cases dM hi 0 0 with
  |none=>rfl
  |some q=>cases dM lo 0 q<;>simp [c4d,V.cz]
 ·rw [a]
  simp only [slS,true_or,if_true,rws,aw]
  cases dM hi l.length l.length with
  |none=>rfl
  |some q=>cases dM lo 0 q<;>simp [sl,rws, <-List.map_take, <-List.map_drop]
theorem c31 (m:Nat) (b:e.esz=m) (k:IntKind) (a:Int):slS m (sl e l) (some (.lit (.int k a))) none none h=(qA l a l.length).bind (fun l'=>some (sl e l',[])):=by
 rw [Xb m b]
 simp only [LS,Hu,qA]
 by_cases c:0<=a<;>by_cases d:a<=(l.length:Int)<;>simp [c,d]
theorem c2g (m:Nat) (a:e.esz=m) (k:IntKind) (b:Int):slS m (sl e l) none (some (.lit (.int k b))) none h=(qA l 0 b).bind (fun l'=>some (sl e l',[])):=by
 rw [Xb m a]
 simp only [LS,Hu,qA]
 by_cases c:0<=b<;>by_cases d:b<=(l.length:Int)<;>simp [c,d]
theorem c2z (m:Nat) (c:e.esz=m) (k k':IntKind) (a b:Int):slS m (sl e l) (some (.lit (.int k a))) (some (.lit (.int k' b))) none h=(qA l a b).bind (fun l'=>some (sl e l',[])):=by
 rw [Xb m c]
 simp only [Hu,qA]
 by_cases d:0<=b<;>by_cases f:b<=(l.length:Int)<;>by_cases i:0<=a<;>by_cases j:a<=b
 all_goals (have e1:((b.toNat:Nat):Int)=b\/ ¬0<=b:=by omega)
 all_goals (rcases e1 with e1|e1)
 all_goals (first|omega| (simp [d,f,i,j,e1];try omega))
def slO (k:Option Blk) (m b s q:Nat) (a:Int):Option (V×Upd):=match k with
 |some k=>if k.op=false/\0<k.esz/\k.esz=m/\s+q=k.rows.length then (if 0<=a/\a<=q then some (.sl b (s+a.toNat) (q-a.toNat),[]) else none) else none
 |none=>none
theorem b6L (m b s q:Nat) (k:IntKind) (a:Int):slS m (.sl b s q) (some (.lit (.int k a))) none none h=slO (h b) m b s q a:=by
 simp only [slS,slO,LS,Hu]
 cases h b with
 |none=>rfl
 |some k=>
  dsimp only
  split
  ·by_cases hc:0<=a/\a<=(q:Int)
   ·rw [aa hc,aa hc];simp
   ·rw [a7 hc,a7 hc]
  ·rfl
theorem c2M (m b s q:Nat) (a:Int) (h0:Nat.blt 0 m=true) (c:s+q=l.length):slO (some ⟨m,false,rws e l⟩) m b s q a=br (decide (0<=a)&&decide (a<=q)) (some (.sl b (s+a.toNat) (q-a.toNat),[])) none:=by
 rw [Gq,aA] at h0
 by_cases d:0<=a<;>by_cases f:a<=(q:Int)<;>simp [slO,rws,c,h0,d,f,br]
def ssS (x:V) (lo hi:Option V):Option (V×Upd):=match x with
 | .lit (.string s)=>match dM hi s.size s.size with
   |some b=>match dM lo 0 b with
    |some a=>some (.lit (.string (s.extract a b)),[])
    |none=>none
   |none=>none
 |_=>none
theorem a4b (x:Opd) (lo hi:Option Opd):aK C ow (.sliceStr x lo hi) ev h n=ssS (ev x) (lo.map ev) (hi.map ev):=rfl
theorem a2n (s:List UInt8) (a b:Nat):(⟨⟨s⟩⟩:ByteArray).extract a b=⟨⟨(s.take b).drop a⟩⟩:=by
 apply ByteArray.ext
 rw [ByteArray.data_extract]
 apply fL
 simp [List.extract_eq_take_drop,List.drop_take]
theorem a6t (s:List UInt8) (lo hi:Option V):ssS (S s) lo hi=(match dM hi s.length s.length with
 |some q=>match dM lo 0 q with
  |some p=>some (S ((s.take q).drop p),[])
  |none=>none
 |none=>none):=by
 simp only [ssS,Y9,a2n]
theorem c0V (s:List UInt8) (k:IntKind) (b:Int):ssS (S s) none (some (.lit (.int k b)))=(qA s 0 b).bind (fun l'=>some (S l',[])):=by
 rw [a6t]
 simp only [LS,Hu,qA]
 by_cases a:0<=b<;>by_cases c:b<=(s.length:Int)<;>simp [a,c]
theorem c3n (s:List UInt8) (k k':IntKind) (a b:Int):ssS (S s) (some (.lit (.int k a))) (some (.lit (.int k' b)))=(qA s a b).bind (fun l'=>some (S l',[])):=by
 rw [a6t]
 simp only [Hu,qA]
 by_cases c:0<=b<;>by_cases d:b<=(s.length:Int)<;>by_cases e:0<=a<;>by_cases f:a<=b
 all_goals (have e1:((b.toNat:Nat):Int)=b\/ ¬0<=b:=by omega)
 all_goals (rcases e1 with e1|e1)
 all_goals (first|omega| (simp [c,d,e,f,e1];try omega))
noncomputable def apS (esz bytes:Nat) (zero:List Value) (x y:V) (h:ba) (n:Nat):Option (List (List V))->Option (V×Upd)
 |none=>none
 |some new_=>if zero.length=esz/\0<esz/\new_.length*bytes<=dz/\new_.length*esz<=dz then
  (match x with
  | .sl b 0 n=>match h b with
    |some k=>if k.op=false/\0<k.esz/\k.esz=esz/\n=k.rows.length/\(n+new_.length)*bytes<=dz/\(n+new_.length)*esz<=dz/\aK.selfOk b y then
     some (.sl b 0 (n+new_.length),[(b,{ k with rows:=k.rows++new_ })]) else none
    |none=>none
  | .lit (.slice none 0 0)=>pc h n ⟨esz,false,new_⟩ (.sl n 0 new_.length)
  | .imm 0 []=>pc h n ⟨esz,false,new_⟩ (.sl n 0 new_.length)
  |_=>none) else none
theorem b2h (esz bytes:Nat) (zero:List Value) (x y:Opd):aK C ow (.append esz bytes zero x y) ev h n=apS esz bytes zero (ev x) (ev y) h n (fm h esz (ev y)):=by
 simp only [aK]
 cases fm h esz (ev y) with
 |none=>rfl
 |some r=>rfl
noncomputable def OJ (b:Nat) (y:V):Bool:=aK.selfOk b y
theorem b2w (b:Nat):OJ b (sl e l)=true:=by
 rcases oZ e l with ⟨_,h⟩|⟨_,h⟩<;>rw [h]<;>rfl
theorem a6x (b b' s q:Nat):OJ b (.sl b' s q)=(b !=b'):=rfl
theorem a7k (b:Nat) (s:List UInt8):OJ b (S s)=true:=rfl
def apO (k:Option Blk) (esz bytes:Nat) (zero:List Value) (b q:Nat) (sb:Bool) (new_:List (List V)):Option (V×Upd):=match k with
 |some k=>if zero.length=esz/\0<esz/\new_.length*bytes<=dz/\new_.length*esz<=dz then
  (if k.op=false/\0<k.esz/\k.esz=esz/\q=k.rows.length/\(q+new_.length)*bytes<=dz/\(q+new_.length)*esz<=dz/\sb=true then
        some (.sl b 0 (q+new_.length),[(b,{ k with rows:=k.rows++new_ })]) else none) else none
 |none=>none
theorem b8n (esz bytes:Nat) (zero:List Value) (b q:Nat) (y:V) (new_:List (List V)):apS esz bytes zero (.sl b 0 q) y h n (some new_)=apO (h b) esz bytes zero b q (OJ b y) new_:=by
 simp only [apS,apO,OJ]
 cases h b with
 |none=>simp
 |some k=>rfl
theorem c2y (m bytes:Nat) (zero:List Value) (b q:Nat) (sb:Bool) (f:Nat.beq zero.length m=true) (h0:Nat.blt 0 m=true) (h:Nat.ble m bytes=true) (i:l.length=q) (j:sb=true):
 apO (some ⟨m,false,rws e l⟩) m bytes zero b q sb (rws e l2)=br (bj (l++l2).length bytes) (some (.sl b 0 (l++l2).length,[(b,⟨m,false,rws e (l++l2)⟩)])) none:=by
 have d:=iZ f
 have a:=dG h
 rw [Gq,aA] at h0
 subst j i
 simp only [apO,bj,rws,aw,a8,bW]
 have e1:(l.length+l2.length)*m<=(l.length+l2.length)*bytes:=jJ _ a
 have e2:l2.length*bytes<=(l.length+l2.length)*bytes:=bg _ om
 have k:l2.length*m<=l2.length*bytes:=jJ _ a
 by_cases c:(l.length+l2.length)*bytes<=dz
 ·rw [aa ⟨d,h0,by omega,by omega⟩,aa ⟨by trivial,h0,by trivial,by trivial,c,by omega,by trivial⟩,aj c,dj]
 ·rw [ae c,bu]
  split
  ·rw [a7 (fun hc=>c hc.2.2.2.2.1)]
  ·rfl
theorem b6i (m bytes:Nat) (zero:List Value) (y:V) (d:Nat.beq zero.length m=true) (h0:Nat.blt 0 m=true) (f:Nat.ble m bytes=true):
 apS m bytes zero (.lit (.slice none 0 0)) y h n (some (rws e l2))=br (bj l2.length bytes) (frO (h n) n ⟨m,false,rws e l2⟩ (.sl n 0 l2.length)) none:=by
 have b:=iZ d
 have c:=dG f
 rw [Gq,aA] at h0
 simp only [apS,bj,A6]
 have i:(rws e l2).length=l2.length:=by simp [rws]
 rw [i]
 have j:l2.length*m<=l2.length*bytes:=jJ _ c
 by_cases a:l2.length*bytes<=dz
 ·rw [aa ⟨b,h0,a,by omega⟩,aj a,dj]
 ·rw [ae a,bu,a7 (fun hc=>a hc.2.2.1)]
def yN (l:List α) (s k:Nat) (l2:List α):List α:=l.take s++(l2.take k++l.drop (s+k))
def c7n (esz bytes:Nat) (zero:List Value) (x y:V) (h:ba) (n:Nat):Option (V×Upd):=match asI y with
 |some l=>if 0<=l/\l<=1099511627776/\l*bytes<=1099511627776/\zero.all cD then Np esz bytes zero x (fun _=>true) h n (List.replicate l.toNat (zero.map zc)) else none
 |none=>none
noncomputable def cpS (esz:Nat) (x y:V) (h:ba):Option (List (List V))->Option (V×Upd)
 |some rows=>match x with
  | .sl b s n=>match h b with
    |some k=>if k.op=false/\0<k.esz/\k.esz=esz/\s+n=k.rows.length/\aK.selfOk b y then
     some (.lit (.int .i64 (min rows.length n)),[(b,{ k with rows:=k.rows.take s++(rows.take (min rows.length n)++k.rows.drop (s+min rows.length n)) })]) else none
    |none=>none
  |_=>none
 |none=>none
theorem c2q (esz:Nat) (x y:Opd):aK C ow (.copy esz x y) ev h n=cpS esz (ev x) (ev y) h (fm h esz (ev y)):=by
 simp only [aK,cpS]
 cases fm h esz (ev y) with
 |none=>rfl
 |some r=>cases ev x<;>rfl
def cpO (k:Option Blk) (esz b s q:Nat) (sb:Bool) (rows:List (List V)):Option (V×Upd):=match k with
 |some k=>if k.op=false/\0<k.esz/\k.esz=esz/\s+q=k.rows.length/\sb=true then
  some (.lit (.int .i64 (min rows.length q)),[(b,{ k with rows:=k.rows.take s++(rows.take (min rows.length q)++k.rows.drop (s+min rows.length q)) })]) else none
 |none=>none
theorem b8U (esz b s q:Nat) (y:V) (rows:List (List V)):cpS esz (.sl b s q) y h (some rows)=cpO (h b) esz b s q (OJ b y) rows:=by
 simp only [cpS,cpO,OJ]
 cases h b<;>rfl
theorem c1s (m b s q:Nat) (sb:Bool) (h0:Nat.blt 0 m=true) (c:sb=true):cpO (some ⟨m,false,rws e l⟩) m b s q sb (rws e l2)=
 br (decide (s+q=l.length)) (some (I (min (l2.length:Int) (q:Int)),[(b,⟨m,false,rws e (yN l s (min l2.length q) l2)⟩)])) none:=by
 rw [Gq,aA] at h0
 subst c
 simp only [cpO]
 by_cases a:s+q=l.length
 ·rw [aa ⟨by trivial,h0,by trivial,by simp [rws,a],by trivial⟩,aj a,dj]
  simp [rws,yN,List.map_take,List.map_drop]
 ·rw [ae a,bu,a7 (fun hc=>a (by simpa [rws] using hc.2.2.2.1))]
def ncS (x:V) (h:ba):Option (V×Upd):=match x with
 | .ptr b i o n=>match h b with
   |some k=>if k.rows.length=n/\i<n then some (.ptr b i o n,[]) else none
   |none=>none
 | .iptr r o=>some (.iptr r o,[])
 | .fn f c=>some (.fn f c,[])
 |_=>none
theorem a2X (x:Opd):aK C ow (.nilCheck x) ev h n=ncS (ev x) h:=by
 simp only [aK,ncS]
 cases ev x<;>rfl
def ncO (k:Option Blk) (b i o m:Nat):Option (V×Upd):=match k with
 |some k=>if k.rows.length=m/\i<m then some (.ptr b i o m,[]) else none
 |none=>none
theorem c5m (b i o m:Nat):ncS (.ptr b i o m) h=ncO (h b) b i o m:=rfl
theorem c2i (b o m:Nat) (row:List V):ncO (some ⟨m,true,[row]⟩) b 0 o 1=some (.ptr b 0 o 1,[]):=rfl
def mxS (x y:V):Option (V×Upd):=match x,y with
 | .lit (.int k a),.lit (.int _ b)=>some (.lit (.int k (if b>a then b else a)),[])
 |_,_=>none
theorem c4b (x y:Opd):aK C ow (.max2 x y) ev h n=mxS (ev x) (ev y):=by
 simp only [aK,mxS]
 cases ev x<;>cases ev y<;>rfl
theorem c52 (k k':IntKind) (a b:Int):mxS (.lit (.int k a)) (.lit (.int k' b))=some (.lit (.int k (mx a b)),[]):=rfl
def mnS (x y:V):Option (V×Upd):=match x,y with
 | .lit (.int k a),.lit (.int _ b)=>some (.lit (.int k (if b<a then b else a)),[])
 |_,_=>none
noncomputable def OG (fl ro:Bool) (h:ba) (new:Nat) (ids bor:List Nat):Option (V×List Blk)->Option (V×Upd)
 |some (r,bs)=>roW ro h (A5 fl h new ids bor r bs)
 |none=>none
noncomputable def roX (k':Option Blk) (b:Nat) (k:Blk) (x:Option Upd):Option Upd:=match k' with
 |none=>x.map ((b,k):: ·)
 |some k'=>open Classical in if k'=k then x else none
def roE (v:V):Option Upd->Option (V×Upd)
 |some u=>some (v,u)
 |none=>none
theorem b8c:roU h []=some []:=rfl
theorem b5g (b:Nat) (k:Blk) (r:Upd):roU h ((b,k)::r)=roX (h b) b k (roU h r):=by
 simp only [roU,roX];cases h b<;>rfl
theorem b1V (b:Nat) (k:Blk) (x:Option Upd):roX (some k) b k x=x:=by simp [roX]
theorem b3j (b:Nat) (k:Blk) (u:Upd):roX none b k (some u)=some ((b,k)::u):=rfl
theorem b2d (v:V) (u:Upd):roE v (some u)=some (v,u):=rfl
theorem c6m (x:Option (V×Upd)):roW false h x=x:=by cases x<;>rfl
theorem b1m (v:V) (u:Upd):roW true h (some (v,u))=roE v (roU h u):=by
 simp only [roW,if_true,roE];cases roU h u<;>rfl
noncomputable def V2 (C:cr) (ow:FuncId->List Nat) (h:ba) (new:Nat) (f:FuncId):Option (List V×List Blk×List Nat×List Nat)->Option (V×Upd)
 |some (args',blks,ids,bor)=>OG ((ow f).contains 2000) ((ow f).contains 3000) h new ids bor (C f (xE (ow f) args') (xf (ow f) blks))
 |none=>none
theorem VD (f:FuncId) (args:List V):qC C ow h n f args=V2 C ow h n f (gi ow h f args):=by
 unfold qC V2 OG
 cases gi ow h f args with
 |none=>rfl
 |some p=>obtain ⟨a,b,c,d⟩:=p;dsimp only;cases C f (xE (ow f) a) (xf (ow f) b)<;>rfl
theorem c3D (f:FuncId) (args:List Opd):aK C ow (.call f args) ev h n=V2 C ow h n f (gi ow h f (args.map ev)):=VD _ _
noncomputable def c3d (C:cr) (ow:FuncId->List Nat) (h:ba) (n:Nat) (args:List V):V->Option (V×Upd)
 | .fn k caps=>V2 C ow h n k (gi ow h k (args++caps))
 |_=>none
theorem c5Y (f:Opd) (args:List Opd):aK C ow (.dyn f args) ev h n=c3d C ow h n (args.map ev) (ev f):=by
 simp only [aK,c3d]
 cases ev f<;>first|rfl|exact VD _ _
theorem b8M (args:List V) (k:FuncId) (caps:List V):c3d C ow h n args (.fn k caps)=V2 C ow h n k (gi ow h k (args++caps)):=rfl
theorem a3a (f:FuncId) (a:List V) (b:List Blk) (c d:List Nat):V2 C ow h n f (some (a,b,c,d))=OG ((ow f).contains 2000) ((ow f).contains 3000) h n c d (C f (xE (ow f) a) (xf (ow f) b)):=rfl
def a5d (args':List V) (bor:List Nat):Option (List Blk×List Nat)->Option (List V×List Blk×List Nat×List Nat)
 |some (blks,ids)=>br (bor.any (fun b=>decide (b∈ids))) none (some (args',blks,ids,bor))
 |none=>none
def b3U (h:ba):Option (List V×List Nat×List Nat)->Option (List V×List Blk×List Nat×List Nat)
 |some (args',ids0,bor)=>a5d args' bor (gN h 40 0 ids0)
 |none=>none
theorem a0T (f:FuncId) (args:List V):gi ow h f args=b3U h (lL h (ow f) 0 [] args):=by
 unfold gi b3U a5d
 cases lL h (ow f) 0 [] args with
 |none=>rfl
 |some p=>
  obtain ⟨a,i,b⟩:=p
  dsimp only
  cases gN h 40 0 i with
  |none=>rfl
  |some q=>
   obtain ⟨bl,ids⟩:=q
   dsimp only
   cases c:b.any (fun b=>decide (b∈ids))<;>simp [br]
theorem a2F (a:List V) (i b:List Nat):b3U h (some (a,i,b))=a5d a b (gN h 40 0 i):=rfl
theorem a2L (a:List V) (b:List Nat) (bl:List Blk) (ids:List Nat):a5d a b (some (bl,ids))=br (b.any (fun b=>decide (b∈ids))) none (some (a,bl,ids,b)):=rfl
def la2 (v':V) (bs:List Nat):Option (List V×List Nat×List Nat)->Option (List V×List Nat×List Nat)
 |some (r',ids'',bs')=>some (v'::r',ids'',bs++bs')
 |none=>none
def la1 (h:ba) (owns:List Nat) (j:Nat) (r:List V):Option (V×List Nat×List Nat)->Option (List V×List Nat×List Nat)
 |some (v',ids',bs)=>la2 v' bs (lL h owns (j+1) ids' r)
 |none=>none
theorem a1d (owns:List Nat) (j:Nat) (ids:List Nat):lL h owns j ids []=some ([],ids,[]):=rfl
theorem WU (owns:List Nat) (j:Nat) (ids:List Nat) (v:V) (r:List V):lL h owns j ids (v::r)=la1 h owns j r (hJ h (owns.contains j) ids v):=by
 have:decide (j∈owns)=owns.contains j:=by simp [List.contains_iff_mem,Bool.eq_iff_iff]
 simp only [lL,la1,la2,this]
 cases hJ h (owns.contains j) ids v with
 |none=>rfl
 |some p=>obtain ⟨a,b,c⟩:=p;dsimp only;cases lL h owns (j+1) b r<;>rfl
theorem b2c (owns:List Nat) (j:Nat) (r:List V) (v':V) (ids' bs:List Nat):la1 h owns j r (some (v',ids',bs))=la2 v' bs (lL h owns (j+1) ids' r):=rfl
theorem b2t (v':V) (bs:List Nat) (r':List V) (i b:List Nat):la2 v' bs (some (r',i,b))=some (v'::r',i,bs++b):=rfl
def lcP (k:Option Blk) (ids:List Nat) (b i o m:Nat):Option (V×List Nat×List Nat):=match k with
 |some k=>if k.rows.length=m then some (.ptr (n3 b (iA ids b)) i o m,iA ids b,[]) else none
 |none=>none
def lcO (k:Option Blk) (own:Bool) (ids:List Nat) (b s q:Nat):Option (V×List Nat×List Nat):=match k with
 |some k=>if s+q=k.rows.length then
  (if own then some (.sl (n3 b (iA ids b)) s q,iA ids b,[]) else if k.op=false/\0<k.esz then some (.imm k.esz (k.rows.drop s),ids,[b]) else none) else none
 |none=>none
theorem b3o (own:Bool) (ids:List Nat) (v:Value):fq h own ids (.lit v)=some (.lit v,ids,[]):=rfl
theorem c3u (own:Bool) (ids:List Nat) (b i o m:Nat):fq h own ids (.ptr b i o m)=lcP (h b) ids b i o m:=rfl
theorem c2f (own:Bool) (ids:List Nat) (b s q:Nat):fq h own ids (.sl b s q)=lcO (h b) own ids b s q:=rfl
theorem SN (own:Bool) (ids:List Nat) (v:Value):hJ h own ids (.lit v)=some (.lit v,ids,[]):=rfl
theorem c2o (own:Bool) (ids:List Nat) (b i o m:Nat):hJ h own ids (.ptr b i o m)=lcP (h b) ids b i o m:=rfl
theorem c2v (own:Bool) (ids:List Nat) (b s q:Nat):hJ h own ids (.sl b s q)=lcO (h b) own ids b s q:=rfl
def lcA (mk:List V->V):Option (List V×List Nat×List Nat)->Option (V×List Nat×List Nat)
 |some (cs',ids',bs)=>some (mk cs',ids',bs)
 |none=>none
theorem c4n (own:Bool) (ids:List Nat) (cs:List V):hJ h own ids (.agg cs)=lcA V.agg (fI h own ids cs):=by
 simp only [hJ,lcA]
 cases fI h own ids cs<;>rfl
theorem c6j (own:Bool) (ids:List Nat) (f:FuncId) (cs:List V):hJ h own ids (.fn f cs)=lcA (V.fn f) (fI h true ids cs):=by
 simp only [hJ,lcA]
 cases fI h true ids cs<;>rfl
theorem b2K (mk:List V->V) (cs:List V) (i b:List Nat):lcA mk (some (cs,i,b))=some (mk cs,i,b):=rfl
def c2k (h:ba) (own:Bool) (r:List V):Option (V×List Nat×List Nat)->Option (List V×List Nat×List Nat)
 |some (v',ids',bs)=>la2 v' bs (fI h own ids' r)
 |none=>none
theorem Yg (own:Bool) (ids:List Nat):fI h own ids []=some ([],ids,[]):=rfl
theorem Io (own:Bool) (ids:List Nat) (v:V) (r:List V):fI h own ids (v::r)=c2k h own r (fq h own ids v):=by
 simp only [fI,c2k,la2]
 cases fq h own ids v with
 |none=>rfl
 |some p=>obtain ⟨a,b,c⟩:=p;dsimp only;cases fI h own b r<;>rfl
theorem Vu (own:Bool) (r:List V) (v':V) (ids' bs:List Nat):c2k h own r (some (v',ids',bs))=la2 v' bs (fI h own ids' r):=rfl
theorem c1R (ids:List Nat) (b o m:Nat) (row:List V):lcP (some ⟨m,true,[row]⟩) ids b 0 o 1=some (.ptr (n3 b (iA ids b)) 0 o 1,iA ids b,[]):=rfl
theorem c6a (m:Nat) (ids:List Nat) (b s q:Nat) (a:s+q=l.length):lcO (some ⟨m,false,rws e l⟩) true ids b s q=some (.sl (n3 b (iA ids b)) s q,iA ids b,[]):=by
 simp [lcO,rws,a]
theorem c6h (m:Nat) (ids:List Nat) (b q:Nat) (h0:Nat.blt 0 m=true) (a:l.length=q):lcO (some ⟨m,false,rws e l⟩) false ids b 0 q=some (.imm m (rws e l),ids,[b]):=by
 rw [Gq,aA] at h0
 simp [lcO,rws,a,h0]
def lb2 (k:Blk):Option (List Blk×List Nat)->Option (List Blk×List Nat)
 |some (r,ids')=>some (k::r,ids')
 |none=>none
def ld2 (v':V):Option (List V×List Nat)->Option (List V×List Nat)
 |some (r',i)=>some (v'::r',i)
 |none=>none
def ld1 (h:ba) (r:List V):Option (V×List Nat×List Nat)->Option (List V×List Nat)
 |some (v',ids',_)=>ld2 v' (uE h ids' r)
 |none=>none
theorem a7C (ids:List Nat):uE h ids []=some ([],ids):=rfl
theorem AU (ids:List Nat) (v:V) (r:List V):uE h ids (v::r)=ld1 h r (hJ h true ids v):=by
 simp only [uE,ld1,ld2]
 cases hJ h true ids v with
 |none=>rfl
 |some p=>obtain ⟨a,b,c⟩:=p;dsimp only;cases uE h b r<;>rfl
theorem GP (r:List V) (v':V) (ids' bs:List Nat):ld1 h r (some (v',ids',bs))=ld2 v' (uE h ids' r):=rfl
theorem b5z (v':V) (r':List V) (i:List Nat):ld2 v' (some (r',i))=some (v'::r',i):=rfl
def lb1 (h:ba) (fuel pos m:Nat):Option (List V×List Nat)->Option (List Blk×List Nat)
 |some (row,ids1)=>lb2 ⟨m,true,[row]⟩ (gN h fuel (pos+1) ids1)
 |none=>none
def lb0 (h:ba) (fuel pos:Nat) (ids:List Nat):Option Blk->Option (List Blk×List Nat)
 |some k=>if k.op=false then lb2 k (gN h fuel (pos+1) ids) else (match rR h ids k.rows with
  |none=>none
  |some (rows,ids1)=>lb2 { k with rows:=rows } (gN h fuel (pos+1) ids1))
 |none=>none
def lbN (h:ba) (fuel pos:Nat) (ids:List Nat):Option Nat->Option (List Blk×List Nat)
 |none=>some ([],ids)
 |some b=>lb0 h fuel pos ids (h b)
theorem a4j (fuel pos:Nat) (ids:List Nat):gN h (fuel+1) pos ids=lbN h fuel pos ids ids[pos]? :=by
 simp only [gN,lbN,lb0]
 cases ids[pos]? with
 |none=>rfl
 |some b=>
  dsimp only
  cases h b with
  |none=>rfl
  |some k=>
   dsimp only
   split
   ·cases gN h fuel (pos+1) ids<;>rfl
   ·cases rR h ids k.rows with
    |none=>rfl
    |some p=>obtain ⟨rows,ids1⟩:=p;dsimp only;cases gN h fuel (pos+1) ids1<;>rfl
theorem b2p (fuel pos:Nat) (ids:List Nat):lbN h fuel pos ids none=some ([],ids):=rfl
theorem b3p (fuel pos:Nat) (ids:List Nat) (b:Nat):lbN h fuel pos ids (some b)=lb0 h fuel pos ids (h b):=rfl
theorem c3o (fuel pos:Nat) (ids:List Nat) (m:Nat) (r:List (List V)):lb0 h fuel pos ids (some ⟨m,false,r⟩)=lb2 ⟨m,false,r⟩ (gN h fuel (pos+1) ids):=rfl
theorem c3B (fuel pos:Nat) (ids:List Nat) (m:Nat) (row:List V):lb0 h fuel pos ids (some ⟨m,true,[row]⟩)=lb1 h fuel pos m (uE h ids row):=by
 simp only [lb0,rR,lb1]
 cases uE h ids row with
 |none=>rfl
 |some p=>obtain ⟨a,b⟩:=p;rfl
theorem b4r (fuel pos m:Nat) (row:List V) (ids1:List Nat):lb1 h fuel pos m (some (row,ids1))=lb2 ⟨m,true,[row]⟩ (gN h fuel (pos+1) ids1):=rfl
theorem b2T (k:Blk) (r:List Blk) (ids:List Nat):lb2 k (some (r,ids))=some (k::r,ids):=rfl
theorem c5c (n:Nat):i8 [] [] n=[]:=rfl
theorem c4p (k:Blk) (r:List Blk) (n:Nat):i8 [] (k::r) n=n::i8 [] r (n+1000000):=rfl
theorem c5V (i:Nat) (ids:List Nat) (k:Blk) (r:List Blk) (n:Nat):i8 (i::ids) (k::r) n=i8 ids r n:=rfl
def cpw (fl:Bool) (new:Nat) (ids bor:List Nat) (r:V) (bs:List Blk) (ns:List Nat):Option (V×Upd):=some (Jl (ids++ns) r,ra (ids++ns) (bs.map (ms (ids++ns)))++br (bor.isEmpty||(BU r&&bs.all (CN fl))) [] (ka bor))
theorem c36 (fl:Bool) (new:Nat) (ids bor:List Nat) (r:V) (bs:List Blk) (ns:List Nat):cpw fl new ids bor r bs ns=some (Jl (ids++ns) r,ra (ids++ns) (bs.map (ms (ids++ns)))++br (bor.isEmpty||(BU r&&bs.all (CN fl))) [] (ka bor)):=rfl
theorem a28 (fl ro:Bool) (new:Nat) (ids bor:List Nat) (r:V) (bs:List Blk):OG fl ro h new ids bor (some (r,bs))=
 roW ro h (br (Nat.ble ids.length bs.length&&(i8 ids bs new).all (fun b=>(h b).isNone)) (cpw fl new ids bor r bs (i8 ids bs new)) none):=by
 refine congrArg (roW ro h) ?_
 simp only [A5,cpw,KX]
 generalize (i8 ids bs new).all (fun b=>(h b).isNone)=c3
 generalize (bor.isEmpty||(BU r&&bs.all (CN fl)))=c4
 by_cases a:ids.length<=bs.length
 ·rw [aj a];cases c3<;>cases c4<;>simp [a,br]
 ·rw [ae a];cases c3<;>cases c4<;>simp [a,br]
theorem a8i (ids:List Nat) (vs:List V):Jl ids (.tup vs)= .tup (vs.map (qj ids)):=rfl
theorem a8U (ids:List Nat) (vs:List V):Jl ids (.agg vs)= .agg (vs.map (unV ids)):=rfl
theorem a7i (ids:List Nat) (v:Value):Jl ids (.lit v)= .lit v:=rfl
theorem a9d (ids:List Nat) (b i o m:Nat):Jl ids (.ptr b i o m)= .ptr (ids.getD b 0) i o m:=rfl
theorem a73 (ids:List Nat) (b s q:Nat):Jl ids (.sl b s q)= .sl (ids.getD b 0) s q:=rfl
theorem a78 (ids:List Nat) (vs:List V):qj ids (.agg vs)= .agg (vs.map (unV ids)):=rfl
theorem a8Y (ids:List Nat) (v:Value):qj ids (.lit v)= .lit v:=rfl
theorem a8h (ids:List Nat) (b i o m:Nat):qj ids (.ptr b i o m)= .ptr (ids.getD b 0) i o m:=rfl
theorem a9v (ids:List Nat) (b s q:Nat):qj ids (.sl b s q)= .sl (ids.getD b 0) s q:=rfl
theorem b6v (ids:List Nat) (v:Value):unV ids (.lit v)= .lit v:=rfl
theorem a9Y (ids:List Nat) (f:FuncId) (cs:List V):qj ids (.fn f cs)= .fn f (cs.map (unV ids)):=rfl
theorem b6N (ids:List Nat) (b i o m:Nat):unV ids (.ptr b i o m)= .ptr (ids.getD b 0) i o m:=rfl
theorem b1A (ids:List Nat) (m:Nat) (r:List (List V)):ms ids ⟨m,false,r⟩=⟨m,false,r⟩:=rfl
theorem a8n (ids:List Nat) (m:Nat) (row:List V):ms ids ⟨m,true,[row]⟩=⟨m,true,[row.map (qj ids)]⟩:=rfl
theorem c38 (v:Value):BU (.lit v)=true:=rfl
theorem c1P (vs:List V):BU (.agg vs)=vs.all vB:=rfl
theorem c1n (vs:List V):BU (.tup vs)=vs.all SR:=rfl
theorem c3s (b i o m:Nat):BU (.ptr b i o m)=true:=rfl
theorem c40 (b s q:Nat):BU (.sl b s q)=true:=rfl
theorem b87 (v:Value):SR (.lit v)=true:=rfl
theorem b9W (vs:List V):SR (.agg vs)=vs.all vB:=rfl
theorem b7G (v:Value):vB (.lit v)=true:=rfl
theorem c3x (f:FuncId) (cs:List V):vB (.fn f cs)=false:=rfl
theorem b94 (b i o m:Nat):vB (.ptr b i o m)=true:=rfl
theorem b7F (b s q:Nat):vB (.sl b s q)=true:=rfl
theorem c0W (m:Nat) (r:List (List V)):CN false ⟨m,false,r⟩=false:=rfl
theorem c3T (fl:Bool) (m:Nat) (row:List V):CN fl ⟨m,true,[row]⟩=row.all vB:=by simp [CN]
def b6E (raw:Bool) (m:Nat):Option (List V)->Option (List Blk)->Option (V×List Blk)
 |some vs',some bs=>br (Nat.ble m 1000) (some ((WA vs').czR,br raw bs (bs.map Blk.cz))) none
 |_,_=>none
def a0Y (keep raw:Bool) (m:Nat) (h:ba):Option (List V)->Option (V×List Blk)
 |some vs=>b6E raw m (z6 h m (br keep (oj raw h m vs) []) vs) (xV h m (br keep (oj raw h m vs) []) (List.range m++(br keep (oj raw h m vs) [])))
 |none=>none
theorem a5E (nt:Nat) (body:aU) (res:List HZ) (keep raw:Bool) (m:Nat) (st:St) (x:dd) (a:x= .ret\/x= .normal):a3m ⟨nt,body,res,keep,raw⟩ m x st=a0Y keep raw m st.heap (o9 st res):=by
 have b: ∀vs:List V,(if keep=true then oj raw st.heap m vs else [])=br keep (oj raw st.heap m vs) []:=fun vs=>by cases keep<;>rfl
 have:a3m ⟨nt,body,res,keep,raw⟩ m x st=a3m ⟨nt,body,res,keep,raw⟩ m .ret st:=by rcases a with rfl|rfl<;>rfl
 rw [this]
 simp only [a3m,mP,a0Y,b6E,Zk,b,KX]
 cases o9 st res with
 |none=>rfl
 |some vs=>
  dsimp only
  cases z6 st.heap m (br keep (oj raw st.heap m vs) []) vs with
  |none=>rfl
  |some vs'=>
   cases xV st.heap m (br keep (oj raw st.heap m vs) []) (List.range m++(br keep (oj raw st.heap m vs) [])) with
   |none=>rfl
   |some bs=>by_cases c:m<=1000<;>cases raw<;>simp [c,br]
theorem b0X (nt:Nat) (body:aU) (res:List HZ) (keep raw:Bool) (m:Nat) (st:St):a3m ⟨nt,body,res,keep,raw⟩ m .ret st=a0Y keep raw m st.heap (o9 st res):=a5E _ _ _ _ _ _ _ _ (.inl rfl)
theorem a03 (nt:Nat) (body:aU) (res:List HZ) (keep raw:Bool) (m:Nat) (st:St):a3m ⟨nt,body,res,keep,raw⟩ m .normal st=a0Y keep raw m st.heap (o9 st res):=a5E _ _ _ _ _ _ _ _ (.inr rfl)
theorem a8Q (keep raw:Bool) (m:Nat) (vs:List V):a0Y keep raw m h (some vs)=b6E raw m (z6 h m (br keep (oj raw h m vs) []) vs) (xV h m (br keep (oj raw h m vs) []) (List.range m++(br keep (oj raw h m vs) []))):=rfl
theorem a8m (raw:Bool) (m:Nat) (vs:List V) (bs:List Blk):b6E raw m (some vs) (some bs)=br (Nat.ble m 1000) (some ((WA vs).czR,br raw bs (bs.map Blk.cz))) none:=rfl
def rs1:Option V->Option (List V)->Option (List V)
 |some v,some vs=>some (v::vs)
 |_,_=>none
theorem b01 (st:St):o9 st []=some []:=rfl
theorem a9q (st:St) (r:HZ) (rs:List HZ):o9 st (r::rs)=rs1 (IP st r) (o9 st rs):=by
 simp only [o9,rs1]
 cases IP st r<;>cases o9 st rs<;>rfl
theorem b0a (v:V) (vs:List V):rs1 (some v) (some vs)=some (v::vs):=rfl
theorem b7v (st:St) (t:Nat):IP st (.tmp t)=some (st.get t):=rfl
theorem b58 (st:St) (t:Nat) (g:Option Nat):IP st (.cell t g)=Ac g st.heap (st.get t):=rfl
def c7m:Option V->Option (List V)->Option (List V)
 |some v,some vs=>some (v::vs)
 |_,_=>none
theorem a8X (m:Nat) (kp:List Nat):z6 h m kp []=some []:=rfl
theorem a2Y (m:Nat) (kp:List Nat) (v:V) (r:List V):z6 h m kp (v::r)=rs1 (Ll h m kp v) (z6 h m kp r):=by
 simp only [z6,rs1]
 cases Ll h m kp v<;>cases z6 h m kp r<;>rfl
theorem a6V (m:Nat) (kp:List Nat):yZ h m kp []=some []:=rfl
theorem Qv (m:Nat) (kp:List Nat) (v:V) (r:List V):yZ h m kp (v::r)=rs1 (vE h m kp v) (yZ h m kp r):=by
 simp only [yZ,rs1]
 cases vE h m kp v<;>cases yZ h m kp r<;>rfl
def fag:Option (List V)->Option V
 |some cs=>some (.agg cs)
 |none=>none
theorem b2V (m:Nat) (kp:List Nat) (cs:List V):Ll h m kp (.agg cs)=fag (yZ h m kp cs):=by
 simp only [Ll,fag]
 cases yZ h m kp cs<;>rfl
theorem b3Q (cs:List V):fag (some cs)=some (.agg cs):=rfl
theorem b37 (m:Nat) (kp:List Nat) (v:Value):Ll h m kp (.lit v)=some (.lit v):=rfl
theorem b0w (m:Nat) (kp:List Nat) (v:Value):vE h m kp (.lit v)=some (.lit v):=rfl
def b7R:Option (V×List Nat)->Option V
 |some (v,_)=>some v
 |none=>none
def fcO (h:ba) (m:Nat) (kp:List Nat) (b s q:Nat):Option V:=br (Nat.blt b m) (some (.sl b s q)) (br (kp.contains b) (some (.sl (m+n3 b kp) s q)) (b7R (uO h (.sl b s q))))
theorem SM (m:Nat) (kp:List Nat) (b s q:Nat):vE h m kp (.sl b s q)=fcO h m kp b s q:=by
 simp only [vE,fcO,Gq,b7R]
 by_cases a:b<m
 ·simp [a,br]
 ·by_cases c:b∈kp
  ·simp [a,c,br]
  ·have:kp.contains b=false:=by simpa using c
   simp only [a,c,this,if_false,decide_false,bu]
   cases uO h (.sl b s q)<;>rfl
theorem b2I (m:Nat) (kp:List Nat) (b s q:Nat):Ll h m kp (.sl b s q)=fcO h m kp b s q:=SM m kp b s q
theorem c1p (m:Nat) (kp:List Nat) (b s q:Nat):fcO h m kp b s q=br (Nat.blt b m) (some (.sl b s q)) (br (kp.contains b) (some (.sl (m+n3 b kp) s q)) (b7R (uO h (.sl b s q)))):=rfl
theorem a8Z (v:V) (bs:List Nat):b7R (some (v,bs))=some v:=rfl
def fcP (m:Nat) (kp:List Nat) (b i o q:Nat):Option V:=br (Nat.blt b m) (some (.ptr b i o q)) (br (kp.contains b) (some (.ptr (m+n3 b kp) i o q)) none)
theorem Q9 (m:Nat) (kp:List Nat) (b i o q:Nat):vE h m kp (.ptr b i o q)=fcP m kp b i o q:=by
 simp only [vE,fcP,Gq]
 by_cases a:b<m
 ·simp [a,br]
 ·by_cases c:b∈kp
  ·simp [a,c,br]
  ·have:kp.contains b=false:=by simpa using c
   simp [a,c,this,br]
theorem b0s (m:Nat) (kp:List Nat) (b i o q:Nat):Ll h m kp (.ptr b i o q)=fcP m kp b i o q:=Q9 (h:=h) m kp b i o q
theorem c1h (m:Nat) (kp:List Nat) (b i o q:Nat):fcP m kp b i o q=br (Nat.blt b m) (some (.ptr b i o q)) (br (kp.contains b) (some (.ptr (m+n3 b kp) i o q)) none):=rfl
def fb2:Option Blk->Option (List Blk)->Option (List Blk)
 |some k,some r=>some (k::r)
 |_,_=>none
def fb1 (h:ba) (m:Nat) (kp r:List Nat):Option Blk->Option (List Blk)
 |some k=>fb2 (RI h m kp k) (xV h m kp r)
 |none=>none
theorem a7h (m:Nat) (kp:List Nat):xV h m kp []=some []:=rfl
theorem a2R (m:Nat) (kp:List Nat) (b:Nat) (r:List Nat):xV h m kp (b::r)=fb1 h m kp r (h b):=by
 simp only [xV,fb1,fb2]
 cases h b with
 |none=>rfl
 |some k=>dsimp only;cases RI h m kp k<;>cases xV h m kp r<;>rfl
theorem b4m (m:Nat) (kp r:List Nat) (k:Blk):fb1 h m kp r (some k)=fb2 (RI h m kp k) (xV h m kp r):=rfl
theorem b3z (k:Blk) (r:List Blk):fb2 (some k) (some r)=some (k::r):=rfl
theorem b7e (m:Nat) (kp:List Nat) (q:Nat) (r:List (List V)):RI h m kp ⟨q,false,r⟩=some ⟨q,false,r⟩:=rfl
def fbO (q:Nat):Option (List V)->Option Blk
 |some row=>some ⟨q,true,[row]⟩
 |none=>none
theorem a72 (m:Nat) (kp:List Nat):BR h m kp []=some []:=rfl
theorem Aq (m:Nat) (kp:List Nat) (v:V) (r:List V):BR h m kp (v::r)=rs1 (NW h m kp v) (BR h m kp r):=by
 simp only [BR,rs1]
 cases NW h m kp v<;>cases BR h m kp r<;>rfl
def fnR (f:FuncId):Option (List V)->Option V
 |some cs=>some (.fn f cs)
 |none=>none
theorem b0T (f:FuncId) (cs:List V):fnR f (some cs)=some (.fn f cs):=rfl
theorem b1g (m:Nat) (kp:List Nat) (f:FuncId):NW h m kp (.fn f [])=some (.fn f []):=rfl
theorem b5W (m:Nat) (kp:List Nat) (f:FuncId) (c:V) (cs:List V):NW h m kp (.fn f (c::cs))=fnR f (yZ h m kp (c::cs)):=by
 simp only [NW,fnR]
 cases yZ h m kp (c::cs)<;>rfl
theorem b4e (m:Nat) (kp:List Nat) (v:Value):NW h m kp (.lit v)=some (.lit v):=rfl
theorem b5m (m:Nat) (kp:List Nat) (b s q:Nat):NW h m kp (.sl b s q)=fcO h m kp b s q:=SM m kp b s q
theorem b3f (m:Nat) (kp:List Nat) (b i o q:Nat):NW h m kp (.ptr b i o q)=fcP m kp b i o q:=Q9 (h:=h) m kp b i o q
theorem b7C (m:Nat) (kp:List Nat) (q:Nat) (row:List V):RI h m kp ⟨q,true,[row]⟩=fbO q (BR h m kp row):=by
 simp only [RI,xG,fbO]
 cases BR h m kp row<;>rfl
theorem b4X (q:Nat) (row:List V):fbO q (some row)=some ⟨q,true,[row]⟩:=rfl
theorem b3K (t u:Nat) (v:V) (r:List (Nat×V)) (m:List (Nat×Blk)):St.get ⟨(u,v)::r,m⟩ t=if u=t then v else St.get ⟨r,m⟩ t:=by
 simp only [St.get,eH]
 split<;>rfl
theorem b8w (t:Nat) (m:List (Nat×Blk)):St.get ⟨[],m⟩ t= .undef:=rfl
theorem a74 (b c:Nat) (k:Blk) (r:List (Nat×Blk)) (x:List (Nat×V)):St.heap ⟨x,(c,k)::r⟩ b=if c=b then some k else St.heap ⟨x,r⟩ b:=rfl
theorem b2j (b:Nat) (x:List (Nat×V)):St.heap ⟨x,[]⟩ b=none:=rfl
theorem b3l (x:List (Nat×V)) (m:List (Nat×Blk)) (d:Nat) (v:V):St.put ⟨x,m⟩ (some d) v=⟨(d,v)::x,m⟩:=rfl
theorem b0M (st:St) (v:V):st.put none v=st:=rfl
theorem c3y (x:List (Nat×V)) (m:List (Nat×Blk)) (u:Upd):St.upd ⟨x,m⟩ u=⟨x,a07 m u⟩:=rfl
theorem b7M (st:St):st.upd []=st:=rfl
theorem b2r (m:List (Nat×Blk)):a07 m []=m:=rfl
theorem a8C (m:List (Nat×Blk)) (b:Nat) (k:Blk) (r:Upd):a07 m ((b,k)::r)=a07 (lx b k m) r:=rfl
theorem b0m {β:Type} (k:Nat) (v:β):lx k v []=[(k,v)]:=rfl
theorem a6T {β:Type} (k j:Nat) (v u:β) (r:List (Nat×β)):lx k v ((j,u)::r)=if j=k then (j,v)::r else (j,u)::lx k v r:=rfl
theorem c6L (st:St) (t:Nat):st.ev (.t t)=st.get t:=rfl
theorem c6I (st:St) (v:Value):st.ev (.c v)= .lit v:=rfl
theorem c7f (st:St) (f:FuncId):st.ev (.f f)= .fn f []:=rfl
theorem b7x (live:List Nat) (x:List (Nat×V)) (m:List (Nat×Blk)):trim live ⟨x,m⟩=⟨live.map fun t=>(t,St.get ⟨x,m⟩ t),m⟩:=rfl
theorem a3T {β:Type} (n:Nat):u9 n ([]:List β)=[]:=rfl
theorem a0q {β:Type} (n:Nat) (x:β) (r:List β):u9 n (x::r)=(n,x)::u9 (n+1) r:=rfl
theorem start_eq (a:List V) (b:List Blk):start a b=⟨u9 0 a,u9 0 b⟩:=rfl
theorem a1u:jH ev []=[]:=rfl
theorem WY (a b:Nat) (x:Opd) (r:List (Nat×Nat×Opd)):jH ev ((a,b,x)::r)=(a,b,ev x)::jH ev r:=rfl
theorem a6R (cs:List V):Ol cs []=some cs:=rfl
theorem a2P (cs:List V) (off size:Nat) (v:V) (r:List (Nat×Nat×V)):Ol cs ((off,size,v)::r)=br (Nat.beq v.cells.length size&&Nat.ble (off+size) cs.length&&v.cells.all V.cell) (Ol (cs.take off++(v.cells++cs.drop (off+size))) r) none:=rfl
theorem a97 (m:Nat) (r:List (List V)):KU m r []=some r:=rfl
theorem a2a (m:Nat) (rows:List (List V)) (i:Nat) (v:V) (r:List (Nat×V)):KU m rows ((i,v)::r)=br (Nat.beq v.cells.length m&&(Nat.blt i rows.length&&v.cells.all V.cell)) (KU m (rows.set i v.cells) r) none:=rfl
theorem a9r (cs:List V):(V.agg cs).cells=cs:=rfl
theorem VH (v:Value):(V.lit v).cells=[.lit v]:=rfl
theorem a8a (b s q:Nat):(V.sl b s q).cells=[.sl b s q]:=rfl
theorem a6D (b i o m:Nat):(V.ptr b i o m).cells=[.ptr b i o m]:=rfl
theorem b0r (f:FuncId) (cs:List V):(V.fn f cs).cells=[.fn f cs]:=rfl
theorem ZK (k:IntKind) (a:Int):(V.lit (.int k a)).cell=true:=rfl
theorem b2y (a:ByteArray):(V.lit (.string a)).cell=true:=rfl
theorem a9S (a:Option Addr) (n m:Nat):(V.lit (.slice a n m)).cell=true:=rfl
theorem b3x (b s q:Nat):(V.sl b s q).cell=true:=rfl
theorem a9X (b i o m:Nat):(V.ptr b i o m).cell=true:=rfl
theorem b5R (f:FuncId) (cs:List V):(V.fn f cs).cell=true:=rfl
theorem b7s (k:IntKind) (a:Int):cD (.int k a)=true:=rfl
theorem b9L (a:ByteArray):cD (.string a)=true:=rfl
theorem b68 (a:Option Addr) (n m:Nat):cD (.slice a n m)=true:=rfl
theorem a6M:ka []=[]:=rfl
theorem a3W (b:Nat) (r:List Nat):ka (b::r)=(b,kf)::ka r:=rfl
theorem b7r (ids:List Nat):ra ids []=[]:=by cases ids<;>rfl
theorem b1x (i:Nat) (ids:List Nat) (k:Blk) (r:List Blk):ra (i::ids) (k::r)=(i,k)::ra ids r:=rfl
theorem b0x (b x:Nat) (r:List Nat):n3 b (x::r)=if x=b then 0 else n3 b r+1:=rfl
theorem a8B (ids:List Nat) (b:Nat):iA ids b=br (ids.contains b) ids (ids++[b]):=by
 unfold iA
 by_cases h:b∈ids<;>simp [h,br]
theorem b1o (v:V):WA [v]=v:=rfl
theorem b27:WA []= .tup []:=rfl
theorem b2C (a b:V) (r:List V):WA (a::b::r)= .tup (a::b::r):=rfl
theorem a3R (o:List Nat) (a:List V):xE o a=br (o.contains 1000) a (a.map V.czA):=by
 unfold xE;cases o.contains 1000<;>rfl
theorem a2m (o:List Nat) (a:List Blk):xf o a=br (o.contains 1000) a (a.map Blk.cz):=by
 unfold xf;cases o.contains 1000<;>rfl
def a3I (st:St) (bs:List Nat):St:={ e:=RD (fzA st.heap bs) st.e,m:=fzM st.heap bs st.m }
theorem b45 (st:St) (bs:List Nat):dN st (.close bs)=br (bs.all (fun b=>Nat.ble 1000 b)) (some (a3I st bs)) none:=by
 simp only [dN,a3I,KX]
 cases bs.all (fun b=>decide (1000<=b))<;>rfl
theorem a95 (x:List (Nat×V)) (m:List (Nat×Blk)) (bs:List Nat):a3I ⟨x,m⟩ bs=⟨RD (fzA (St.heap ⟨x,m⟩) bs) x,fzM (St.heap ⟨x,m⟩) bs m⟩:=rfl
theorem b5p (g:V->V):RD g []=[]:=rfl
theorem a9a (g:V->V) (t:Nat) (v:V) (r:List (Nat×V)):RD g ((t,v)::r)=(t,g v)::RD g r:=rfl
variable {bs:List Nat}
theorem c1E (v:Value):fzA h bs (.lit v)= .lit v:=rfl
theorem b1S:fzA h bs .undef= .undef:=rfl
def fzO:Option (V×List Nat)->V
 |some (v,_)=>v.cz
 |none=> .undef
theorem b2N (b s q:Nat):fzA h bs (.sl b s q)=br (bs.contains b) (fzO (uO h (.sl b s q))) (.sl b s q):=by
 simp only [fzA,fzC,fzO]
 by_cases a:b∈bs
 ·simp [a,br];cases uO h (.sl b s q)<;>rfl
 ·simp [a,br]
theorem b1W (b i o m:Nat):fzA h bs (.ptr b i o m)=br (bs.contains b) .undef (.ptr b i o m):=by
 simp only [fzA,fzC]
 by_cases a:b∈bs<;>simp [a,br]
theorem b4f (v:V) (b:List Nat):fzO (some (v,b))=v.cz:=rfl
theorem c1H (cs:List V):fzA h bs (.agg cs)=br ((cs.map (fzC h bs)).all V.cell) (.agg (cs.map (fzC h bs))) .undef:=by
 simp only [fzA]
 cases (cs.map (fzC h bs)).all V.cell<;>rfl
theorem c0l (f:FuncId) (cs:List V):fzA h bs (.fn f cs)=br (cs.all okC&& !(cs.flatMap E6).any (fun b=>bs.contains b)) (.fn f cs) .undef:=by
 simp only [fzA,fzC]
 have:(fun b=>decide (b∈bs))=fun b=>bs.contains b:=by funext b;simp [Bool.eq_iff_iff]
 rw [this]
 cases (cs.all okC&& !(cs.flatMap E6).any (fun b=>bs.contains b))<;>rfl
theorem b6P (v:Value):fzC h bs (.lit v)= .lit v:=rfl
theorem c3L (f:FuncId) (cs:List V):fzC h bs (.fn f cs)=br (cs.all okC&& !(cs.flatMap E6).any (fun b=>bs.contains b)) (.fn f cs) .undef:=c0l (h:=h) f cs
theorem b7Y (b i o m:Nat):okC (.ptr b i o m)=true:=rfl
theorem b8p (b s q:Nat):fzC h bs (.sl b s q)=br (bs.contains b) (fzO (uO h (.sl b s q))) (.sl b s q):=b2N b s q
theorem b7u (b i o m:Nat):fzC h bs (.ptr b i o m)=br (bs.contains b) .undef (.ptr b i o m):=b1W (h:=h) b i o m
theorem b79:fzM h bs []=[]:=rfl
def fzK (h:ba) (bs:List Nat) (k:Blk):Blk:=if k.op then (if (k.rows.map (·.map (fzC h bs))).all (·.all V.cell) then { k with rows:=k.rows.map (·.map (fzC h bs)) } else kf) else k
theorem b1t (b:Nat) (k:Blk) (r:List (Nat×Blk)):fzM h bs ((b,k)::r)=br (bs.contains b) (fzM h bs r) ((b,fzK h bs k)::fzM h bs r):=by
 simp only [fzM,fzK]
 by_cases a:b∈bs<;>simp [a,br]
theorem c1k (m:Nat) (r:List (List V)):fzK h bs ⟨m,false,r⟩=⟨m,false,r⟩:=rfl
theorem c3F (m:Nat) (row:List V):fzK h bs ⟨m,true,[row]⟩=br ((row.map (fzC h bs)).all V.cell) ⟨m,true,[row.map (fzC h bs)]⟩ kf:=by
 simp only [fzK,aM,eu,cC,List.all_nil,dO,if_true]
 cases (row.map (fzC h bs)).all V.cell<;>rfl
section
variable {R:Type} {T:Tab} {ow:ff} {k:dd->St->Option R} {d:Option Nat} {n:Nat} {ss:List cx} {live:List Nat} {K:List Fr} {st:St} {base i:Nat} {deps:List (List Nat)} {rs:List Rec} {fp:List Nat} {r:R}
theorem dq {fl ro:Bool} {h:ba} {new:Nat} {ids bor:List Nat} {x:Option (V×List Blk)} {p:V×List Blk} (a:x=some p) (b:aft T ow k d n ss live K st (OG fl ro h new ids bor (some p))=some r):aft T ow k d n ss live K st (OG fl ro h new ids bor x)=some r:=by
 rw [a];exact b
theorem kZ {fl ro:Bool} {h:ba} {new:Nat} {ids bor:List Nat} {x:Option (V×List Blk)} {p:V×List Blk} (a:x=some p) (b:QK T ow k d base i ss deps live rs K st fp (OG fl ro h new ids bor (some p))=some r):QK T ow k d base i ss deps live rs K st fp (OG fl ro h new ids bor x)=some r:=by
 rw [a];exact b
theorem c4r (b:Int):nn b=decide (0<=b):=rfl
theorem c5r (b:Int):nz b=decide (b≠0):=rfl
theorem c2N (i:Int) (n:Nat):inb i n=(decide (0<=i)&&decide (i.toNat<n)):=rfl
end
end
section
variable {ow:ff} {ev:Opd->V} {h:ba} {α:Type} {e:En α} {l:List α}
theorem c5H (x:Opd):mV ow (.mv x) ev h=[]:=rfl
theorem b6j (c a b:Opd):mV ow (.pick c a b) ev h=((AOp.pick c a b).opds.map ev).flatMap nE:=rfl
theorem b5J (c a b:Opd):(AOp.pick c a b).opds=[c,a,b]:=rfl
theorem b2X (z:List Value):mV ow (.alloc z) ev h=((AOp.alloc z).opds.map ev).flatMap nE:=rfl
theorem b3h (z:List Value):(AOp.alloc z).opds=[]:=rfl
theorem b2J (z:List Value) (ps:List (Nat×Nat×Opd)):mV ow (.build z ps) ev h=((AOp.build z ps).opds.map ev).flatMap nE:=rfl
theorem a9T (z:List Value) (ps:List (Nat×Nat×Opd)):(AOp.build z ps).opds=ps.map (·.2.2):=rfl
theorem TT (m:Nat) (z:List Value) (l:Nat) (ps:List (Nat×Opd)):mV ow (.buildSlice m z l ps) ev h=((AOp.buildSlice m z l ps).opds.map ev).flatMap nE:=rfl
theorem U7 (m:Nat) (z:List Value) (l:Nat) (ps:List (Nat×Opd)):(AOp.buildSlice m z l ps).opds=ps.map (·.2):=rfl
theorem b91 (g:Option Nat) (x:Opd):mV ow (.load g x) ev h=((AOp.load g x).opds.map ev).flatMap nE:=rfl
theorem b6q (g:Option Nat) (x:Opd):(AOp.load g x).opds=[x]:=rfl
theorem b51 (m:Nat) (x y:Opd):mV ow (.store m x y) ev h=((AOp.store m x y).opds.map ev).flatMap nE:=rfl
theorem b0U (m:Nat) (x y:Opd):(AOp.store m x y).opds=[x,y]:=rfl
theorem Ze (x:Opd):mV ow (.nilCheck x) ev h=((AOp.nilCheck x).opds.map ev).flatMap nE:=rfl
theorem a1I (x:Opd):(AOp.nilCheck x).opds=[x]:=rfl
theorem c3X (op:BinOp) (x y:Opd):mV ow (.bin op x y) ev h=((AOp.bin op x y).opds.map ev).flatMap nE:=rfl
theorem c1S (op:BinOp) (x y:Opd):(AOp.bin op x y).opds=[x,y]:=rfl
theorem b2g (b:Bool) (ks:List Bool) (x y:Opd):mV ow (.eqAgg b ks x y) ev h=((AOp.eqAgg b ks x y).opds.map ev).flatMap nE:=rfl
theorem b0S (b:Bool) (ks:List Bool) (x y:Opd):(AOp.eqAgg b ks x y).opds=[x,y]:=rfl
theorem c5g (op:UnOp) (x:Opd):mV ow (.un op x) ev h=((AOp.un op x).opds.map ev).flatMap nE:=rfl
theorem c6k (op:UnOp) (x:Opd):(AOp.un op x).opds=[x]:=rfl
theorem b4q (k:IntKind) (x:Opd):mV ow (.toInt k x) ev h=((AOp.toInt k x).opds.map ev).flatMap nE:=rfl
theorem b0j (k:IntKind) (x:Opd):(AOp.toInt k x).opds=[x]:=rfl
theorem a2s (x:Opd):mV ow (.toBytes x) ev h=((AOp.toBytes x).opds.map ev).flatMap nE:=rfl
theorem a2W (x:Opd):(AOp.toBytes x).opds=[x]:=rfl
theorem b4M (x:Opd):mV ow (.toStr x) ev h=((AOp.toStr x).opds.map ev).flatMap nE:=rfl
theorem b4E (x:Opd):(AOp.toStr x).opds=[x]:=rfl
theorem YT (f:FuncId) (cs:List Opd):mV ow (.makeFunc f cs) ev h=[]:=rfl
theorem Wc (m b:Nat) (z:List Value) (x y:Opd):mV ow (.makeSlice m b z x y) ev h=((AOp.makeSlice m b z x y).opds.map ev).flatMap nE:=rfl
theorem WW (m b:Nat) (z:List Value) (x y:Opd):(AOp.makeSlice m b z x y).opds=[x,y]:=rfl
theorem a1C (x:Opd) (lo hi:Option Opd):mV ow (.sliceStr x lo hi) ev h=((AOp.sliceStr x lo hi).opds.map ev).flatMap nE:=rfl
theorem a0X (x:Opd) (lo hi:Option Opd):(AOp.sliceStr x lo hi).opds=x::(M0 lo++M0 hi):=rfl
theorem b04 (m:Nat) (x:Opd) (lo hi mx:Option Opd):mV ow (.slice m x lo hi mx) ev h=((AOp.slice m x lo hi mx).opds.map ev).flatMap nE:=rfl
theorem a9R (m:Nat) (x:Opd) (lo hi mx:Option Opd):(AOp.slice m x lo hi mx).opds=x::(M0 lo++(M0 hi++M0 mx)):=rfl
theorem c2p (m:Nat) (x:Opd):mV ow (.off m x) ev h=[]:=rfl
theorem a9O (m:Nat) (g:Option Nat) (x:Opd):mV ow (.field m g x) ev h=((AOp.field m g x).opds.map ev).flatMap nE:=rfl
theorem b4v (m:Nat) (g:Option Nat) (x:Opd):(AOp.field m g x).opds=[x]:=rfl
theorem c1A (m:Nat) (x y:Opd):mV ow (.idx m x y) ev h=((AOp.idx m x y).opds.map ev).flatMap nE:=rfl
theorem c1v (m:Nat) (x y:Opd):(AOp.idx m x y).opds=[x,y]:=rfl
theorem a7K (m q:Nat) (x y:Opd):mV ow (.idxArr m q x y) ev h=((AOp.idxArr m q x y).opds.map ev).flatMap nE:=rfl
theorem a9o (m q:Nat) (x y:Opd):(AOp.idxArr m q x y).opds=[x,y]:=rfl
theorem b3b (x y:Opd):mV ow (.ixStr x y) ev h=((AOp.ixStr x y).opds.map ev).flatMap nE:=rfl
theorem b3I (x y:Opd):(AOp.ixStr x y).opds=[x,y]:=rfl
theorem c2X (x:Opd) (i:Nat):mV ow (.ext x i) ev h=[]:=rfl
theorem c2e (b:Bool) (x:Opd):mV ow (.len b x) ev h=[]:=rfl
theorem a7s (m b:Nat) (z:List Value) (x y:Opd):mV ow (.append m b z x y) ev h=((AOp.append m b z x y).opds.map ev).flatMap nE:=rfl
theorem a75 (m b:Nat) (z:List Value) (x y:Opd):(AOp.append m b z x y).opds=[x,y]:=rfl
theorem b6R (x y:Opd):mV ow (.max2 x y) ev h=((AOp.max2 x y).opds.map ev).flatMap nE:=rfl
theorem b8l (x y:Opd):(AOp.max2 x y).opds=[x,y]:=rfl
theorem a00 (x:Opd):mV ow (.bytesOwn x) ev h=((AOp.bytesOwn x).opds.map ev).flatMap nE:=rfl
theorem a02 (x:Opd):(AOp.bytesOwn x).opds=[x]:=rfl
theorem b1I (m:Nat) (x:Opd):mV ow (.arrOf m x) ev h=((AOp.arrOf m x).opds.map ev).flatMap nE:=rfl
theorem b0C (m:Nat) (x:Opd):(AOp.arrOf m x).opds=[x]:=rfl
theorem c2R (x:Opd):M0 (some x)=[x]:=rfl
theorem c0F:M0 none=[]:=rfl
def fpC:Option (List V×List Blk×List Nat×List Nat)->List Nat
 |some (_,_,ids,bor)=>ids++bor
 |none=>[]
theorem b2F (a:List V) (b:List Blk) (ids bor:List Nat):fpC (some (a,b,ids,bor))=ids++bor:=rfl
theorem b95 (f:FuncId) (args:List Opd):mV ow (.call f args) ev h=fpC (gi ow h f (args.map ev)):=by
 show Ns ow h f (args.map ev)=_
 unfold Ns fpC
 cases gi ow h f (args.map ev)<;>rfl
def fpD (ow:ff) (h:ba) (args:List V):V->List Nat
 | .fn k caps=>fpC (gi ow h k (args++caps))
 |_=>[]
theorem c3k (f:Opd) (args:List Opd):mV ow (.dyn f args) ev h=fpD ow h (args.map ev) (ev f):=by
 show (match ev f with
  | .fn k caps=>Ns ow h k (args.map ev++caps)
  |_=>[])=_
 cases ev f<;>first|rfl| (simp only [fpD,Ns,fpC];cases gi ow h _ _<;>rfl)
theorem c3G (args:List V) (k:FuncId) (caps:List V):fpD ow h args (.fn k caps)=fpC (gi ow h k (args++caps)):=rfl
theorem b9b (cs:List V):nE (.agg cs)=cs.flatMap E6:=rfl
theorem b6h (v:Value):nE (.lit v)=[]:=rfl
theorem b1U (r:List V) (o:Nat):nE (.iptr r o)=[]:=rfl
theorem b7J (b i o m:Nat):nE (.ptr b i o m)=[b]:=rfl
theorem b64 (b s q:Nat):nE (.sl b s q)=[b]:=rfl
theorem b90 (v:Value):E6 (.lit v)=[]:=rfl
theorem b85 (b i o m:Nat):E6 (.ptr b i o m)=[b]:=rfl
theorem b5I (b s q:Nat):E6 (.sl b s q)=[b]:=rfl
theorem a0V (fp:List Nat) (b:Nat):vl h fp b=br (fp.contains b) (h b) none:=by
 unfold vl
 by_cases a:b∈fp<;>simp [a,br]
theorem b9g (rs:List Rec) (i:Nat) (fp wr:List Nat):b33 rs i fp wr=br (fp.isEmpty&&wr.isEmpty) rs (rs++[⟨i,fp,wr⟩]):=by
 have h:Rec.loud ⟨i,fp,wr⟩= !(fp.isEmpty&&wr.isEmpty):=rfl
 unfold b33
 cases a:Rec.loud ⟨i,fp,wr⟩ with
 |true=>
  rw [a] at h
  have b:(fp.isEmpty&&wr.isEmpty)=false:=by
   cases c:fp.isEmpty&&wr.isEmpty with
   |false=>rfl
   |true=>rw [c] at h;cases h
  rw [b,bu,List.filter_cons_of_pos a];rfl
 |false=>
  rw [a] at h
  have b:(fp.isEmpty&&wr.isEmpty)=true:=by
   cases c:fp.isEmpty&&wr.isEmpty with
   |true=>rfl
   |false=>rw [c] at h;cases h
  rw [b,dj,List.filter_cons_of_neg (by rw [a];decide)];simp
theorem a6B (deps:List (List Nat)):tE deps []=true:=rfl
theorem a2I (deps:List (List Nat)) (p:Rec) (r:List Rec):tE deps (p::r)=(G4 deps p r&&tE deps r):=rfl
theorem b7f (deps:List (List Nat)) (p:Rec):G4 deps p []=true:=rfl
theorem b1D (deps:List (List Nat)) (i j:Nat) (f g w u:List Nat) (r:List Rec):G4 deps ⟨i,f,w⟩ (⟨j,g,u⟩::r)=((w.isEmpty&&u.isEmpty||(deps.getD j []).contains i|| !(w.any (fun b=>decide (b∈g)||decide (b∈u))||u.any (fun b=>decide (b∈f))))&&G4 deps ⟨i,f,w⟩ r):=rfl
theorem a26 {β:Type} (a d:β) (r:List β):(a::r).getD 0 d=a:=rfl
theorem a4e {β:Type} (a d:β) (n:Nat) (r:List β):(a::r).getD (n+1) d=r.getD n d:=rfl
theorem b9Q (m:Nat) (cs:List V) (n:Nat):c2m m cs h n=br (Nat.beq cs.length m&&cs.all V.cell) (frO (h n) n ⟨m,true,[cs]⟩ (.ptr n 0 0 1)) none:=rfl
theorem ai (x:Int) (a: -9223372036854775808<=x) (b:x<9223372036854775808):IntKind.wrap .i64 x=x:=by
 simp [IntKind.wrap,IntKind.bits,IntKind.signed];omega
theorem rD (x:Int) (a:0<=x) (b:x<18446744073709551616):IntKind.wrap .u64 x=x:=by
 simp [IntKind.wrap,IntKind.bits,IntKind.signed];omega
theorem a8v (n:Nat):(OfNat.ofNat n:Int)=(n:Int):=rfl
theorem b02 (n:Nat) (h:Nat.ble n 9223372036854775807=true):IntKind.wrap .i64 (no_index (OfNat.ofNat n:Int))=OfNat.ofNat n:=by
 have a:=dG h
 rw [a8v];exact ai _ om om
theorem c1b (a b:Nat):(a==b)=decide (a=b):=by
 by_cases h:a=b
 ·subst h;simp
 ·rw [ae h];simpa using h
theorem c4k:List.range 0=[]:=rfl
theorem a2E (m:Nat) (vs:List V):oj true h m vs=Fh m [] ((List.range m).flatMap fun b=>b0Y (h b)):=rfl
theorem a6Y (m:Nat) (vs:List V):oj false h m vs=Fh m [] (vs.flatMap nE):=rfl
theorem b8I (m:Nat) (row:List V):b0Y (some ⟨m,true,[row]⟩)=row.flatMap nE:=by simp [b0Y]
theorem b6A (m:Nat) (r:List (List V)):b0Y (some ⟨m,false,r⟩)=[]:=rfl
theorem a9m (m:Nat) (acc:List Nat):Fh m acc []=acc:=rfl
theorem a3D (m b:Nat) (acc r:List Nat):Fh m acc (b::r)=Fh m (br (Nat.ble m b) (iA acc b) acc) r:=by
 simp only [Fh,KX]
 by_cases h:m<=b<;>simp [h,br]
theorem a92 (n:Nat):Int.toNat (no_index (OfNat.ofNat n:Int))=OfNat.ofNat n:=rfl
end
end Go.AI
