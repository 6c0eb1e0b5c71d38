/- Part. -/
import Derived.Test.YtdnkignjanfikaaGreatAiTyp2
set_option linter.unusedVariables false
set_option linter.unusedSimpArgs false
namespace Go.AI
section
variable {C:cr} {ow:FuncId->List Nat} {ev:Opd->V} {h:ba} {n:Nat} {α:Type} {e:En α} {l l2:List α}
def snO (k:Option Blk) (b s q:Nat):Option (V×List Nat):=match k with
 |some k=>if k.op=false/\0<k.esz/\s+q=k.rows.length then some (.imm k.esz (k.rows.drop s),[b]) else none
 |none=>none
theorem b4R (b s q:Nat):uO h (.sl b s q)=snO (h b) b s q:=rfl
theorem c3Q (m b q:Nat) (h0:Nat.blt 0 m=true) (a:l.length=q):snO (some ⟨m,false,rws e l⟩) b 0 q=some (.imm m (rws e l),[b]):=by
 rw [H0,aA] at h0
 simp [snO,rws,a,h0]
theorem b4c (k:IntKind) (a:Int):uO h (.lit (.int k a))=some (.lit (.int k a),[]):=rfl
theorem b3A (a:List UInt8):uO h (S a)=some (S a,[]):=rfl
def snC:Option (V×List Nat)->Option (List V×List Nat)->Option (List V×List Nat)
 |some (a,bs),some (r,bs')=>some (a.cz::r,bs++bs')
 |_,_=>none
theorem a7e:pZ h []=some ([],[]):=rfl
theorem a2n (v:V) (r:List V):pZ h (v::r)=snC (uO h v) (pZ h r):=by
 simp only [pZ,snC]
 cases uO h v<;>cases pZ h r<;>rfl
theorem b0K (a:V) (bs:List Nat) (r:List V) (bs':List Nat):snC (some (a,bs)) (some (r,bs'))=some (a.cz::r,bs++bs'):=rfl
theorem c37 (k:IntKind) (a:Int):(V.lit (.int k a)).cz= .lit (.int k a):=rfl
theorem c4m (a:List UInt8):(S a).cz=S a:=rfl
theorem c1v:(V.lit (.slice none 0 0)).cz= .imm 1 []:=rfl
theorem c3m (b i o m:Nat):(V.ptr b i o m).cz= .ptr b i o m:=rfl
theorem c3b (b s q:Nat):(V.sl b s q).cz= .sl b s q:=rfl
theorem c5x (f:FuncId) (cs:List V):(V.fn f cs).cz= .fn f cs:=rfl
theorem b8b (cs:List V):(V.agg cs).czA= .agg (cs.map V.cz):=rfl
theorem b9H (k:IntKind) (a:Int):(V.lit (.int k a)).czA= .lit (.int k a):=rfl
theorem b1e (a:Bool):(V.lit (.bool a)).czA= .lit (.bool a):=rfl
theorem b8U (a:List UInt8):(S a).czA=S a:=rfl
theorem b99:(V.lit (.slice none 0 0)).czA= .imm 1 []:=rfl
theorem b8P (m:Nat) (r:List (List V)):(V.imm m r).czA=(V.imm m r).cz:=rfl
theorem b7a (b i o m:Nat):(V.ptr b i o m).czA= .ptr b i o m:=rfl
theorem b9x (b s q:Nat):(V.sl b s q).czA= .sl b s q:=rfl
theorem c2I (f:FuncId) (cs:List V):(V.fn f cs).czA= .fn f cs:=rfl
theorem b9h (cs:List V):(V.tup cs).czR= .tup (cs.map V.czA):=rfl
theorem b9T (cs:List V):(V.agg cs).czR= .agg (cs.map V.cz):=rfl
theorem b6e (k:IntKind) (a:Int):(V.lit (.int k a)).czR= .lit (.int k a):=rfl
theorem b5a (a:Bool):(V.lit (.bool a)).czR= .lit (.bool a):=rfl
theorem b9f (a:List UInt8):(S a).czR=S a:=rfl
theorem b6J (m:Nat) (r:List (List V)):(V.imm m r).czR=(V.imm m r).cz:=rfl
theorem b7e (b i o m:Nat):(V.ptr b i o m).czR= .ptr b i o m:=rfl
theorem b6r (b s q:Nat):(V.sl b s q).czR= .sl b s q:=rfl
theorem b4V (m:Nat) (row:List V):Blk.cz ⟨m,true,[row]⟩=⟨m,true,[row.map V.cz]⟩:=rfl
theorem b2C (m:Nat) (r:List (List V)):Blk.cz ⟨m,false,r⟩=⟨m,false,r⟩:=rfl
theorem c1J (k:IntKind) (a:Int):zc (.int k a)= .lit (.int k a):=rfl
theorem c3j (a:List UInt8):zc (.string ⟨⟨a⟩⟩)=S a:=rfl
theorem c1j:zc (.slice none 0 0)= .imm 1 []:=rfl
def stO (k:Option Blk) (b size i o m:Nat) (x:V) (h:ba):Option (V×Upd):=match k with
 |some k=>if k.rows.length=m then (match k.rows[i]? with
  |some row=>
   if k.op then
    (if x.cells.length=size/\o+size<=row.length/\x.cells.all V.cell then
     some (.undef,[(b,{ k with rows:=k.rows.set i (row.take o++(x.cells++row.drop (o+size))) })]) else none)
   else match pZ h x.cells with
    |some (cs,bs)=>if cs.length=size/\o+size<=row.length/\ ¬b∈bs then
     some (.undef,ka bs++[(b,{ k with rows:=k.rows.set i (row.take o++(cs++row.drop (o+size))) })]) else none
    |none=>none
  |none=>none) else none
 |none=>none
def a37 (size:Nat) (a x:V) (h:ba):Option (V×Upd):=match a with
 | .ptr b i o m=>stO (h b) b size i o m x h
 |_=>none
theorem b9S (size:Nat) (a x:Opd):aK C ow (.store size a x) ev h n=a37 size (ev a) (ev x) h:=by
 simp only [aK,a37,stO]
 cases ev a with
 |ptr b i o m=>dsimp only;cases h b<;>rfl
 |_=>rfl
theorem b0a (size b i o m:Nat) (x:V):a37 size (.ptr b i o m) x h=stO (h b) b size i o m x h:=rfl
theorem a1U (m b size o:Nat) (row:List V) (x:V):stO (some ⟨m,true,[row]⟩) b size 0 o 1 x h=
 br (Nat.beq x.cells.length size&&(Nat.ble (o+size) row.length&&x.cells.all V.cell)) (some (.undef,[(b,⟨m,true,[row.take o++(x.cells++row.drop (o+size))]⟩)])) none:=by
 rw [KA,Ku]
 by_cases a:x.cells.length=size<;>by_cases c:o+size<=row.length<;>cases d:x.cells.all V.cell<;>simp [stO,a,c,d,br]
def stT (r:List (List V)) (m b size i o:Nat) (row:List V):Option (List V×List Nat)->Option (V×Upd)
 |some (cs,bs)=>br (Nat.beq cs.length size&&(Nat.ble (o+size) row.length&& !bs.contains b)) (some (.undef,ka bs++[(b,⟨m,false,Gj r i (row.take o++(cs++row.drop (o+size)))⟩)])) none
 |none=>none
theorem a1b (r:List (List V)) (m b size i o:Nat) (row cs:List V) (bs:List Nat):stT r m b size i o row (some (cs,bs))=
 br (Nat.beq cs.length size&&(Nat.ble (o+size) row.length&& !bs.contains b)) (some (.undef,ka bs++[(b,⟨m,false,Gj r i (row.take o++(cs++row.drop (o+size)))⟩)])) none:=rfl
theorem c3I (m b size i o q:Nat) (x:V) (c:l.length=q):stO (some ⟨m,false,rws e l⟩) b size i o q x h=(l[i]?).bind (fun y=>stT (rws e l) m b size i o (e.enc y) (pZ h x.cells)):=by
 simp only [stO]
 have:(rws e l).length=q:=by simp [rws,c]
 rw [aa this]
 have a:(rws e l)[i]? =(l[i]?).map e.enc:=by simp [rws]
 rw [a]
 cases j:l[i]? with
 |none=>rfl
 |some y=>
  simp only [fj,rp]
  cases k:pZ h x.cells with
  |none=>simp [stT]
  |some p=>
   obtain ⟨cs,bs⟩:=p
   rw [a1b,KA,Ku]
   by_cases d:cs.length=size<;>by_cases a:o+size<=(e.enc y).length<;>by_cases f:b∈bs<;>simp [d,a,f,br,Gj]
def psC (i:Nat):Option (List V×List Nat)->Option (List (Nat×V)×List Nat)->Option (List (Nat×V)×List Nat)
 |some (cs,bs),some (r',bs')=>some ((i,.agg cs)::r',bs++bs')
 |_,_=>none
theorem Ub:fC h ev []=some ([],[]):=rfl
theorem QX (i:Nat) (x:Opd) (r:List (Nat×Opd)):fC h ev ((i,x)::r)=psC i (pZ h (ev x).cells) (fC h ev r):=by
 simp only [fC,psC]
 cases pZ h (ev x).cells<;>cases fC h ev r<;>rfl
theorem b2z (i:Nat) (cs:List V) (bs:List Nat) (r:List (Nat×V)) (bs':List Nat):psC i (some (cs,bs)) (some (r,bs'))=some ((i,.agg cs)::r,bs++bs'):=rfl
def KP (esz:Nat) (rows:List (List V)):List (Nat×V)->Option (List (List V))
 |[]=>some rows
 | (i,v)::r=>br (Nat.beq v.cells.length esz&&(Nat.blt i rows.length&&v.cells.all V.cell)) (KP esz (rows.set i v.cells) r) none
theorem YI (esz:Nat): ∀(ps:List (Nat×V)) (rows:List (List V)),Sh esz rows ps=KP esz rows ps
 |[],_=>rfl
 | (i,v)::r,rows=>by
   simp only [Sh,KP,KA,H0]
   rw [<-YI esz r]
   by_cases a:v.cells.length=esz<;>by_cases b:i<rows.length<;>cases c:v.cells.all V.cell<;>simp [a,b,br]
def c1s (u0:Upd):Option (V×Upd)->Option (V×Upd)
 |some (v,u)=>some (v,u0++u)
 |none=>none
theorem a6L (a u:Upd) (v:V):c1s a (some (v,u))=some (v,a++u):=rfl
def bsR (esz len:Nat) (zero:List Value) (bs:List Nat) (h:ba) (n:Nat):Option (List (List V))->Option (V×Upd)
 |some rows=>br (Nat.beq zero.length esz&&(zero.all cF&&(Nat.ble (len*esz) 16777216&& !bs.contains n))) (c1s (ka bs) (frO (h n) n ⟨esz,false,mkR n rows⟩ (.sl n 0 len))) none
 |none=>none
def bsS (esz len:Nat) (zero:List Value) (h:ba) (n:Nat):Option (List (Nat×V)×List Nat)->Option (V×Upd)
 |some (ps,bs)=>bsR esz len zero bs h n (KP esz (List.replicate len (zero.map zc)) ps)
 |none=>none
theorem XW (esz len:Nat) (zero:List Value) (ps:List (Nat×Opd)):aK C ow (.buildSlice esz zero len ps) ev h n=bsS esz len zero h n (fC h ev ps):=by
 simp only [aK,bsS,YI,Al]
 cases fC h ev ps with
 |none=>rfl
 |some p=>
  obtain ⟨qs,bs⟩:=p
  dsimp only
  cases KP esz (List.replicate len (zero.map zc)) qs with
  |none=>rfl
  |some rows=>
   simp only [bsR,KA,Ku,mkR]
   by_cases a:zero.length=esz<;>cases d:zero.all cF<;>by_cases b:len*esz<=16777216<;>by_cases c:n∈bs<;>simp [a,b,c,br]
   cases frO (h n) n ⟨esz,false,rows⟩ (.sl n 0 len)<;>rfl
theorem b2y (esz len:Nat) (zero:List Value) (ps:List (Nat×V)) (bs:List Nat):bsS esz len zero h n (some (ps,bs))=bsR esz len zero bs h n (KP esz (List.replicate len (zero.map zc)) ps):=rfl
theorem b1p (esz len:Nat) (zero:List Value) (bs:List Nat) (rows:List (List V)):bsR esz len zero bs h n (some rows)=br (Nat.beq zero.length esz&&(zero.all cF&&(Nat.ble (len*esz) 16777216&& !bs.contains n))) (c1s (ka bs) (frO (h n) n ⟨esz,false,mkR n rows⟩ (.sl n 0 len))) none:=rfl
def tbS (x:V) (h:ba) (n:Nat):Option (V×Upd):=match x with
 | .lit (.string s)=>if s.size<=dz then pg h n ⟨1,false,s.data.toList.map fun b=>[.lit (.int .u8 b.toNat)]⟩ (.sl n 0 s.size) else none
 |_=>none
theorem a9v (x:Opd):aK C ow (.toBytes x) ev h n=tbS (ev x) h n:=rfl
theorem c5P (s:List UInt8):tbS (S s) h n=br (bj s.length 1) (frO (h n) n ⟨1,false,rws eU8 s⟩ (.sl n 0 s.length)) none:=by
 simp only [tbS,Xw,bj,tK,Al]
 by_cases a:s.length<=dz<;>simp [a,br]
 rfl
def boS (x:V) (h:ba):Option (V×Upd):=match x with
 | .sl b s n=>match h b with
   |some k=>if k.op=false/\0<k.esz/\s+n=k.rows.length/\0<n then some (.sl b s n,[(b,k)]) else none
   |none=>none
 |_=>none
theorem a4r (x:Opd):aK C ow (.bytesOwn x) ev h n=boS (ev x) h:=rfl
def boO (k:Option Blk) (b s n:Nat):Option (V×Upd):=match k with
 |some k=>if k.op=false/\0<k.esz/\s+n=k.rows.length/\0<n then some (.sl b s n,[(b,k)]) else none
 |none=>none
theorem b73 (b s q:Nat):boS (.sl b s q) h=boO (h b) b s q:=rfl
theorem c4k (b m q:Nat) (h0:Nat.blt 0 m=true) (a:l.length=q):boO (some ⟨m,false,rws e l⟩) b 0 q=br (decide (0<q)) (some (.sl b 0 q,[(b,⟨m,false,rws e l⟩)])) none:=by
 rw [H0,aA] at h0
 by_cases c:0<q<;>simp [boO,rws,a,h0,c,br]
theorem a0i (l:List UInt8):aK.bytesOf (rws eU8 l)=some l:=by
 induction l with
 |nil=>rfl
 |cons b l ih=>
  simp only [rws,aM,eU8] at ih ⊢
  simp only [aK.bytesOf]
  have a:(0:Int)<=(b.toNat:Int)/\(b.toNat:Int)<256:=⟨by omega,by have:=b.toNat_lt;omega⟩
  rw [aa a,ih]
  simp
noncomputable def tsR:Option (List (List V))->Option (V×Upd)
 |some rows=>match aK.bytesOf rows with
  |some l=>some (.lit (.string ⟨l.toArray⟩),[])
  |none=>none
 |none=>none
noncomputable def tsS (x:V) (h:ba):Option (V×Upd):=br (a5T x) none (tsR (fm h 1 x))
theorem b8s (x:Opd):aK C ow (.toStr x) ev h n=tsS (ev x) h:=by
 simp only [aK,tsS,tsR]
 cases a5T (ev x)
 ·simp only [bC,if_false,bu]
  cases fm h 1 (ev x)<;>rfl
 ·rfl
theorem a9Q (l:List UInt8):tsR (some (rws eU8 l))=some (S l,[]):=by
 simp only [tsR,a0i]
theorem c1c (l:List UInt8):tsS (sl eU8 l) h=some (S l,[]):=by
 rw [tsS,a1c,bu,V2 1 rfl,a9Q]
def roO (k:Option Blk) (m s q:Nat):Option (List (List V)):=match k with
 |some k=>if k.op=false/\0<k.esz/\k.esz=m/\s+q=k.rows.length then some (k.rows.drop s) else none
 |none=>none
theorem a3o (m b s q:Nat):fm h m (.sl b s q)=roO (h b) m s q:=rfl
theorem c1e (m q:Nat) (h0:Nat.blt 0 m=true) (a:l.length=q):roO (some ⟨m,false,rws e l⟩) m 0 q=some (rws e l):=by
 rw [H0,aA] at h0
 simp [roO,rws,a,h0]
theorem a2g (s:List UInt8):fm h 1 (S s)=some (rws eU8 s):=rfl
theorem b9I (b s q:Nat):tsS (.sl b s q) h=tsR (roO (h b) 1 s q):=rfl
def c42 (esz bytes:Nat) (zero:List Value) (len cap:V) (h:ba) (n:Nat):Option (V×Upd):=match asI len,asI cap with
 |some l,some c=>if 0<=l/\l<=c/\c*bytes<=dz/\c*esz<=dz/\zero.length=esz/\zero.all cF then
  pg h n ⟨esz,false,List.replicate l.toNat (zero.map zc)⟩ (.sl n 0 l.toNat) else none
 |_,_=>none
theorem Zp (esz bytes:Nat) (zero:List Value) (len cap:Opd):aK C ow (.makeSlice esz bytes zero len cap) ev h n=c42 esz bytes zero (ev len) (ev cap) h n:=rfl
theorem c3N (esz bytes:Nat) (zero:List Value) (k k':IntKind) (a c:Int) (e:Nat.ble esz bytes=true) (f:Nat.beq zero.length esz=true) (b:zero.all cF=true):
 c42 esz bytes zero (.lit (.int k a)) (.lit (.int k' c)) h n=br (TL a c bytes) (frO (h n) n ⟨esz,false,Uc n a.toNat (zero.map zc)⟩ (.sl n 0 (a67 (Uc n a.toNat (zero.map zc))))) none:=by
 have d:=j1 f
 have i:=dG e
 simp only [c42,asI,TL,d,b,Al,Uc,a67,aL]
 by_cases j:0<=a<;>by_cases l:a<=c<;>by_cases m:c*bytes<=dz<;>simp [j,l,m,br]
 intro o
 exfalso
 have:c*esz<=c*bytes:=Int.mul_le_mul_of_nonneg_left om om
 omega
def slS (esz:Nat) (x:V) (lo hi mx:Option V) (h:ba):Option (V×Upd):=match mx with
 |some _=>none
 |none=>match x with
  | .lit (.slice none 0 0)=>match dM hi 0 0 with
    |some q=>match dM lo 0 q with
     |some _=>some (.lit (.slice none 0 0),[])
     |none=>none
    |none=>none
  | .sl b s n=>match h b with
    |some k=>if k.op=false/\0<k.esz/\k.esz=esz/\s+n=k.rows.length then (match dM hi n n with
     |some q=>match dM lo 0 q with
      |some p=>if q=n then some (.sl b (s+p) (n-p),[]) else some ((V.imm esz (((k.rows.drop s).take q).drop p)).cz,[(b,kj)])
      |none=>none
     |none=>none) else none
    |none=>none
  | .imm e rows=>if e=esz\/rows=[] then (match dM hi rows.length rows.length with
   |some q=>match dM lo 0 q with
    |some p=>some ((V.imm e ((rows.take q).drop p)).cz,[])
    |none=>none
   |none=>none) else none
  |_=>none
theorem b68 (esz:Nat) (x:Opd) (lo hi:Option Opd):aK C ow (.slice esz x lo hi none) ev h n=slS esz (ev x) (lo.map ev) (hi.map ev) none h:=rfl
theorem Mn (d m:Nat):dM none d m=some d:=rfl
theorem Hl (k:IntKind) (i:Int) (d m:Nat):dM (some (.lit (.int k i))) d m=if 0<=i/\i<=m then some i.toNat else none:=rfl
theorem Xj (m:Nat) (b:e.esz=m) (lo hi:Option V):slS m (sl e l) lo hi none h=(match dM hi l.length l.length with
 |some q=>match dM lo 0 q with
  |some p=>some (sl e ((l.take q).drop p),[])
  |none=>none
 |none=>none):=by
 subst b
 rcases pi e l with ⟨rfl,a⟩|⟨c,a⟩
 ·rw [a]
  simp only [slS,ah,or_true,if_true]
  cases dM hi 0 0 with
  |none=>rfl
  |some q=>cases dM lo 0 q<;>simp [c4i,V.cz]
 ·rw [a]
  simp only [slS,true_or,if_true,rws,aw]
  cases dM hi l.length l.length with
  |none=>rfl
  |some q=>cases dM lo 0 q<;>simp [sl,rws, <-List.map_take, <-List.map_drop]
theorem c3C (m:Nat) (b:e.esz=m) (k:IntKind) (a:Int):slS m (sl e l) (some (.lit (.int k a))) none none h=(rF l a l.length).bind (fun l'=>some (sl e l',[])):=by
 rw [Xj m b]
 simp only [Mn,Hl,rF]
 by_cases c:0<=a<;>by_cases d:a<=(l.length:Int)<;>simp [c,d]
theorem c3H (m:Nat) (a:e.esz=m) (k:IntKind) (b:Int):slS m (sl e l) none (some (.lit (.int k b))) none h=(rF l 0 b).bind (fun l'=>some (sl e l',[])):=by
 rw [Xj m a]
 simp only [Mn,Hl,rF]
 by_cases c:0<=b<;>by_cases d:b<=(l.length:Int)<;>simp [c,d]
theorem c1m (m:Nat) (c:e.esz=m) (k k':IntKind) (a b:Int):slS m (sl e l) (some (.lit (.int k a))) (some (.lit (.int k' b))) none h=(rF l a b).bind (fun l'=>some (sl e l',[])):=by
 rw [Xj m c]
 simp only [Hl,rF]
 by_cases d:0<=b<;>by_cases f:b<=(l.length:Int)<;>by_cases i:0<=a<;>by_cases j:a<=b
 all_goals (have e1:((b.toNat:Nat):Int)=b\/ ¬0<=b:=by omega)
 all_goals (rcases e1 with e1|e1)
 all_goals (first|omega| (simp [d,f,i,j,e1];try omega))
def slO (k:Option Blk) (m b s q:Nat) (a:Int):Option (V×Upd):=match k with
 |some k=>if k.op=false/\0<k.esz/\k.esz=m/\s+q=k.rows.length then (if 0<=a/\a<=q then some (.sl b (s+a.toNat) (q-a.toNat),[]) else none) else none
 |none=>none
theorem b6U (m b s q:Nat) (k:IntKind) (a:Int):slS m (.sl b s q) (some (.lit (.int k a))) none none h=slO (h b) m b s q a:=by
 simp only [slS,slO,Mn,Hl]
 cases h b with
 |none=>rfl
 |some k=>
  dsimp only
  split
  ·by_cases hc:0<=a/\a<=(q:Int)
   ·rw [aa hc,aa hc];simp
   ·rw [a7 hc,a7 hc]
  ·rfl
theorem c2u (m b s q:Nat) (a:Int) (h0:Nat.blt 0 m=true) (c:s+q=l.length):slO (some ⟨m,false,rws e l⟩) m b s q a=br (decide (0<=a)&&decide (a<=q)) (some (.sl b (s+a.toNat) (q-a.toNat),[])) none:=by
 rw [H0,aA] at h0
 by_cases d:0<=a<;>by_cases f:a<=(q:Int)<;>simp [slO,rws,c,h0,d,f,br]
def ssS (x:V) (lo hi:Option V):Option (V×Upd):=match x with
 | .lit (.string s)=>match dM hi s.size s.size with
   |some b=>match dM lo 0 b with
    |some a=>some (.lit (.string (s.extract a b)),[])
    |none=>none
   |none=>none
 |_=>none
theorem a48 (x:Opd) (lo hi:Option Opd):aK C ow (.sliceStr x lo hi) ev h n=ssS (ev x) (lo.map ev) (hi.map ev):=rfl
theorem a3a (s:List UInt8) (a b:Nat):(⟨⟨s⟩⟩:ByteArray).extract a b=⟨⟨(s.take b).drop a⟩⟩:=by
 apply ByteArray.ext
 rw [ByteArray.data_extract]
 apply fH
 simp [List.extract_eq_take_drop,List.drop_take]
theorem a4R (s:List UInt8) (lo hi:Option V):ssS (S s) lo hi=(match dM hi s.length s.length with
 |some q=>match dM lo 0 q with
  |some p=>some (S ((s.take q).drop p),[])
  |none=>none
 |none=>none):=by
 simp only [ssS,Xw,a3a]
theorem c2c (s:List UInt8) (k:IntKind) (b:Int):ssS (S s) none (some (.lit (.int k b)))=(rF s 0 b).bind (fun l'=>some (S l',[])):=by
 rw [a4R]
 simp only [Mn,Hl,rF]
 by_cases a:0<=b<;>by_cases c:b<=(s.length:Int)<;>simp [a,c]
theorem c4f (s:List UInt8) (k k':IntKind) (a b:Int):ssS (S s) (some (.lit (.int k a))) (some (.lit (.int k' b)))=(rF s a b).bind (fun l'=>some (S l',[])):=by
 rw [a4R]
 simp only [Hl,rF]
 by_cases c:0<=b<;>by_cases d:b<=(s.length:Int)<;>by_cases e:0<=a<;>by_cases f:a<=b
 all_goals (have e1:((b.toNat:Nat):Int)=b\/ ¬0<=b:=by omega)
 all_goals (rcases e1 with e1|e1)
 all_goals (first|omega| (simp [c,d,e,f,e1];try omega))
noncomputable def apS (esz bytes:Nat) (zero:List Value) (x y:V) (h:ba) (n:Nat):Option (List (List V))->Option (V×Upd)
 |none=>none
 |some new_=>if zero.length=esz/\0<esz/\new_.length*bytes<=dz/\new_.length*esz<=dz then
  (match x with
  | .sl b 0 n=>match h b with
    |some k=>if k.op=false/\0<k.esz/\k.esz=esz/\n=k.rows.length/\(n+new_.length)*bytes<=dz/\(n+new_.length)*esz<=dz/\aK.selfOk b y then
     some (.sl b 0 (n+new_.length),[(b,{ k with rows:=k.rows++new_ })]) else none
    |none=>none
  | .lit (.slice none 0 0)=>pg h n ⟨esz,false,new_⟩ (.sl n 0 new_.length)
  | .imm 0 []=>pg h n ⟨esz,false,new_⟩ (.sl n 0 new_.length)
  |_=>none) else none
theorem b1V (esz bytes:Nat) (zero:List Value) (x y:Opd):aK C ow (.append esz bytes zero x y) ev h n=apS esz bytes zero (ev x) (ev y) h n (fm h esz (ev y)):=by
 simp only [aK]
 cases fm h esz (ev y) with
 |none=>rfl
 |some r=>rfl
noncomputable def OT (b:Nat) (y:V):Bool:=aK.selfOk b y
theorem b1w (b:Nat):OT b (sl e l)=true:=by
 rcases pi e l with ⟨_,h⟩|⟨_,h⟩<;>rw [h]<;>rfl
theorem a7X (b b' s q:Nat):OT b (.sl b' s q)=(b !=b'):=rfl
theorem a6J (b:Nat) (s:List UInt8):OT b (S s)=true:=rfl
def apO (k:Option Blk) (esz bytes:Nat) (zero:List Value) (b q:Nat) (sb:Bool) (new_:List (List V)):Option (V×Upd):=match k with
 |some k=>if zero.length=esz/\0<esz/\new_.length*bytes<=dz/\new_.length*esz<=dz then
  (if k.op=false/\0<k.esz/\k.esz=esz/\q=k.rows.length/\(q+new_.length)*bytes<=dz/\(q+new_.length)*esz<=dz/\sb=true then
        some (.sl b 0 (q+new_.length),[(b,{ k with rows:=k.rows++new_ })]) else none) else none
 |none=>none
theorem b94 (esz bytes:Nat) (zero:List Value) (b q:Nat) (y:V) (new_:List (List V)):apS esz bytes zero (.sl b 0 q) y h n (some new_)=apO (h b) esz bytes zero b q (OT b y) new_:=by
 simp only [apS,apO,OT]
 cases h b with
 |none=>simp
 |some k=>rfl
theorem c4d (m bytes:Nat) (zero:List Value) (b q:Nat) (sb:Bool) (f:Nat.beq zero.length m=true) (h0:Nat.blt 0 m=true) (h:Nat.ble m bytes=true) (i:l.length=q) (j:sb=true):
 apO (some ⟨m,false,rws e l⟩) m bytes zero b q sb (rws e l2)=br (bj (l++l2).length bytes) (some (.sl b 0 (l++l2).length,[(b,⟨m,false,rws e (l++l2)⟩)])) none:=by
 have d:=j1 f
 have a:=dG h
 rw [H0,aA] at h0
 subst j i
 simp only [apO,bj,rws,aw,a8,bW]
 have e1:(l.length+l2.length)*m<=(l.length+l2.length)*bytes:=jG _ a
 have e2:l2.length*bytes<=(l.length+l2.length)*bytes:=bg _ om
 have k:l2.length*m<=l2.length*bytes:=jG _ a
 by_cases c:(l.length+l2.length)*bytes<=dz
 ·rw [aa ⟨d,h0,by omega,by omega⟩,aa ⟨by trivial,h0,by trivial,by trivial,c,by omega,by trivial⟩,aj c,dj]
 ·rw [ae c,bu]
  split
  ·rw [a7 (fun hc=>c hc.2.2.2.2.1)]
  ·rfl
theorem b8D (m bytes:Nat) (zero:List Value) (y:V) (d:Nat.beq zero.length m=true) (h0:Nat.blt 0 m=true) (f:Nat.ble m bytes=true):
 apS m bytes zero (.lit (.slice none 0 0)) y h n (some (rws e l2))=br (bj l2.length bytes) (frO (h n) n ⟨m,false,rws e l2⟩ (.sl n 0 l2.length)) none:=by
 have b:=j1 d
 have c:=dG f
 rw [H0,aA] at h0
 simp only [apS,bj,Al]
 have i:(rws e l2).length=l2.length:=by simp [rws]
 rw [i]
 have j:l2.length*m<=l2.length*bytes:=jG _ c
 by_cases a:l2.length*bytes<=dz
 ·rw [aa ⟨b,h0,a,by omega⟩,aj a,dj]
 ·rw [ae a,bu,a7 (fun hc=>a hc.2.2.1)]
def yX (l:List α) (s k:Nat) (l2:List α):List α:=l.take s++(l2.take k++l.drop (s+k))
def c7n (esz bytes:Nat) (zero:List Value) (x y:V) (h:ba) (n:Nat):Option (V×Upd):=match asI y with
 |some l=>if 0<=l/\l<=1099511627776/\l*bytes<=1099511627776/\zero.all cF then MK esz bytes zero x (fun _=>true) h n (List.replicate l.toNat (zero.map zc)) else none
 |none=>none
noncomputable def cpS (esz:Nat) (x y:V) (h:ba):Option (List (List V))->Option (V×Upd)
 |some rows=>match x with
  | .sl b s n=>match h b with
    |some k=>if k.op=false/\0<k.esz/\k.esz=esz/\s+n=k.rows.length/\aK.selfOk b y then
     some (.lit (.int .i64 (min rows.length n)),[(b,{ k with rows:=k.rows.take s++(rows.take (min rows.length n)++k.rows.drop (s+min rows.length n)) })]) else none
    |none=>none
  |_=>none
 |none=>none
theorem c2a (esz:Nat) (x y:Opd):aK C ow (.copy esz x y) ev h n=cpS esz (ev x) (ev y) h (fm h esz (ev y)):=by
 simp only [aK,cpS]
 cases fm h esz (ev y) with
 |none=>rfl
 |some r=>cases ev x<;>rfl
def cpO (k:Option Blk) (esz b s q:Nat) (sb:Bool) (rows:List (List V)):Option (V×Upd):=match k with
 |some k=>if k.op=false/\0<k.esz/\k.esz=esz/\s+q=k.rows.length/\sb=true then
  some (.lit (.int .i64 (min rows.length q)),[(b,{ k with rows:=k.rows.take s++(rows.take (min rows.length q)++k.rows.drop (s+min rows.length q)) })]) else none
 |none=>none
theorem b65 (esz b s q:Nat) (y:V) (rows:List (List V)):cpS esz (.sl b s q) y h (some rows)=cpO (h b) esz b s q (OT b y) rows:=by
 simp only [cpS,cpO,OT]
 cases h b<;>rfl
theorem c3k (m b s q:Nat) (sb:Bool) (h0:Nat.blt 0 m=true) (c:sb=true):cpO (some ⟨m,false,rws e l⟩) m b s q sb (rws e l2)=
 br (decide (s+q=l.length)) (some (I (min (l2.length:Int) (q:Int)),[(b,⟨m,false,rws e (yX l s (min l2.length q) l2)⟩)])) none:=by
 rw [H0,aA] at h0
 subst c
 simp only [cpO]
 by_cases a:s+q=l.length
 ·rw [aa ⟨by trivial,h0,by trivial,by simp [rws,a],by trivial⟩,aj a,dj]
  simp [rws,yX,List.map_take,List.map_drop]
 ·rw [ae a,bu,a7 (fun hc=>a (by simpa [rws] using hc.2.2.2.1))]
def ncS (x:V) (h:ba):Option (V×Upd):=match x with
 | .ptr b i o n=>match h b with
   |some k=>if k.rows.length=n/\i<n then some (.ptr b i o n,[]) else none
   |none=>none
 | .iptr r o=>some (.iptr r o,[])
 | .fn f c=>some (.fn f c,[])
 |_=>none
theorem a2T (x:Opd):aK C ow (.nilCheck x) ev h n=ncS (ev x) h:=by
 simp only [aK,ncS]
 cases ev x<;>rfl
def ncO (k:Option Blk) (b i o m:Nat):Option (V×Upd):=match k with
 |some k=>if k.rows.length=m/\i<m then some (.ptr b i o m,[]) else none
 |none=>none
theorem c4E (b i o m:Nat):ncS (.ptr b i o m) h=ncO (h b) b i o m:=rfl
theorem c40 (b o m:Nat) (row:List V):ncO (some ⟨m,true,[row]⟩) b 0 o 1=some (.ptr b 0 o 1,[]):=rfl
def mxS (x y:V):Option (V×Upd):=match x,y with
 | .lit (.int k a),.lit (.int _ b)=>some (.lit (.int k (if b>a then b else a)),[])
 |_,_=>none
theorem c0M (x y:Opd):aK C ow (.max2 x y) ev h n=mxS (ev x) (ev y):=by
 simp only [aK,mxS]
 cases ev x<;>cases ev y<;>rfl
theorem c5o (k k':IntKind) (a b:Int):mxS (.lit (.int k a)) (.lit (.int k' b))=some (.lit (.int k (mx a b)),[]):=rfl
def mnS (x y:V):Option (V×Upd):=match x,y with
 | .lit (.int k a),.lit (.int _ b)=>some (.lit (.int k (if b<a then b else a)),[])
 |_,_=>none
noncomputable def Oi (fl ro:Bool) (h:ba) (new:Nat) (ids bor:List Nat):Option (V×List Blk)->Option (V×Upd)
 |some (r,bs)=>roW ro h (Aa fl h new ids bor r bs)
 |none=>none
noncomputable def roX (k':Option Blk) (b:Nat) (k:Blk) (x:Option Upd):Option Upd:=match k' with
 |none=>x.map ((b,k):: ·)
 |some k'=>open Classical in if k'=k then x else none
def roE (v:V):Option Upd->Option (V×Upd)
 |some u=>some (v,u)
 |none=>none
theorem b77:roU h []=some []:=rfl
theorem b2Z (b:Nat) (k:Blk) (r:Upd):roU h ((b,k)::r)=roX (h b) b k (roU h r):=by
 simp only [roU,roX];cases h b<;>rfl
theorem b4e (b:Nat) (k:Blk) (x:Option Upd):roX (some k) b k x=x:=by simp [roX]
theorem b1I (b:Nat) (k:Blk) (u:Upd):roX none b k (some u)=some ((b,k)::u):=rfl
theorem b2U (v:V) (u:Upd):roE v (some u)=some (v,u):=rfl
theorem c5s (x:Option (V×Upd)):roW false h x=x:=by cases x<;>rfl
theorem b1N (v:V) (u:Upd):roW true h (some (v,u))=roE v (roU h u):=by
 simp only [roW,if_true,roE];cases roU h u<;>rfl
noncomputable def Vk (C:cr) (ow:FuncId->List Nat) (h:ba) (new:Nat) (f:FuncId):Option (List V×List Blk×List Nat×List Nat)->Option (V×Upd)
 |some (args',blks,ids,bor)=>Oi ((ow f).contains 2000) ((ow f).contains 3000) h new ids bor (C f (xz (ow f) args') (wX (ow f) blks))
 |none=>none
theorem VH (f:FuncId) (args:List V):ru C ow h n f args=Vk C ow h n f (gi ow h f args):=by
 unfold ru Vk Oi
 cases gi ow h f args with
 |none=>rfl
 |some p=>obtain ⟨a,b,c,d⟩:=p;dsimp only;cases C f (xz (ow f) a) (wX (ow f) b)<;>rfl
theorem c33 (f:FuncId) (args:List Opd):aK C ow (.call f args) ev h n=Vk C ow h n f (gi ow h f (args.map ev)):=VH _ _
noncomputable def c3L (C:cr) (ow:FuncId->List Nat) (h:ba) (n:Nat) (args:List V):V->Option (V×Upd)
 | .fn k caps=>Vk C ow h n k (gi ow h k (args++caps))
 |_=>none
theorem c5V (f:Opd) (args:List Opd):aK C ow (.dyn f args) ev h n=c3L C ow h n (args.map ev) (ev f):=by
 simp only [aK,c3L]
 cases ev f<;>first|rfl|exact VH _ _
theorem b9A (args:List V) (k:FuncId) (caps:List V):c3L C ow h n args (.fn k caps)=Vk C ow h n k (gi ow h k (args++caps)):=rfl
theorem a4l (f:FuncId) (a:List V) (b:List Blk) (c d:List Nat):Vk C ow h n f (some (a,b,c,d))=Oi ((ow f).contains 2000) ((ow f).contains 3000) h n c d (C f (xz (ow f) a) (wX (ow f) b)):=rfl
def a4V (args':List V) (bor:List Nat):Option (List Blk×List Nat)->Option (List V×List Blk×List Nat×List Nat)
 |some (blks,ids)=>br (bor.any (fun b=>decide (b∈ids))) none (some (args',blks,ids,bor))
 |none=>none
def b44 (h:ba):Option (List V×List Nat×List Nat)->Option (List V×List Blk×List Nat×List Nat)
 |some (args',ids0,bor)=>a4V args' bor (gN h 40 0 ids0)
 |none=>none
theorem a1w (f:FuncId) (args:List V):gi ow h f args=b44 h (lQ h (ow f) 0 [] args):=by
 unfold gi b44 a4V
 cases lQ h (ow f) 0 [] args with
 |none=>rfl
 |some p=>
  obtain ⟨a,i,b⟩:=p
  dsimp only
  cases gN h 40 0 i with
  |none=>rfl
  |some q=>
   obtain ⟨bl,ids⟩:=q
   dsimp only
   cases c:b.any (fun b=>decide (b∈ids))<;>simp [br]
theorem a1W (a:List V) (i b:List Nat):b44 h (some (a,i,b))=a4V a b (gN h 40 0 i):=rfl
theorem a3p (a:List V) (b:List Nat) (bl:List Blk) (ids:List Nat):a4V a b (some (bl,ids))=br (b.any (fun b=>decide (b∈ids))) none (some (a,bl,ids,b)):=rfl
def la2 (v':V) (bs:List Nat):Option (List V×List Nat×List Nat)->Option (List V×List Nat×List Nat)
 |some (r',ids'',bs')=>some (v'::r',ids'',bs++bs')
 |none=>none
def la1 (h:ba) (owns:List Nat) (j:Nat) (r:List V):Option (V×List Nat×List Nat)->Option (List V×List Nat×List Nat)
 |some (v',ids',bs)=>la2 v' bs (lQ h owns (j+1) ids' r)
 |none=>none
theorem Z7 (owns:List Nat) (j:Nat) (ids:List Nat):lQ h owns j ids []=some ([],ids,[]):=rfl
theorem Yt (owns:List Nat) (j:Nat) (ids:List Nat) (v:V) (r:List V):lQ h owns j ids (v::r)=la1 h owns j r (gZ h (owns.contains j) ids v):=by
 have:decide (j∈owns)=owns.contains j:=by simp [List.contains_iff_mem,Bool.eq_iff_iff]
 simp only [lQ,la1,la2,this]
 cases gZ h (owns.contains j) ids v with
 |none=>rfl
 |some p=>obtain ⟨a,b,c⟩:=p;dsimp only;cases lQ h owns (j+1) b r<;>rfl
theorem b41 (owns:List Nat) (j:Nat) (r:List V) (v':V) (ids' bs:List Nat):la1 h owns j r (some (v',ids',bs))=la2 v' bs (lQ h owns (j+1) ids' r):=rfl
theorem b5k (v':V) (bs:List Nat) (r':List V) (i b:List Nat):la2 v' bs (some (r',i,b))=some (v'::r',i,bs++b):=rfl
def lcP (k:Option Blk) (ids:List Nat) (b i o m:Nat):Option (V×List Nat×List Nat):=match k with
 |some k=>if k.rows.length=m then some (.ptr (n3 b (iC ids b)) i o m,iC ids b,[]) else none
 |none=>none
def lcO (k:Option Blk) (own:Bool) (ids:List Nat) (b s q:Nat):Option (V×List Nat×List Nat):=match k with
 |some k=>if s+q=k.rows.length then
  (if own then some (.sl (n3 b (iC ids b)) s q,iC ids b,[]) else if k.op=false/\0<k.esz then some (.imm k.esz (k.rows.drop s),ids,[b]) else none) else none
 |none=>none
theorem b2D (own:Bool) (ids:List Nat) (v:Value):fx h own ids (.lit v)=some (.lit v,ids,[]):=rfl
theorem c2G (own:Bool) (ids:List Nat) (b i o m:Nat):fx h own ids (.ptr b i o m)=lcP (h b) ids b i o m:=rfl
theorem c2w (own:Bool) (ids:List Nat) (b s q:Nat):fx h own ids (.sl b s q)=lcO (h b) own ids b s q:=rfl
theorem Q4 (own:Bool) (ids:List Nat) (v:Value):gZ h own ids (.lit v)=some (.lit v,ids,[]):=rfl
theorem c3y (own:Bool) (ids:List Nat) (b i o m:Nat):gZ h own ids (.ptr b i o m)=lcP (h b) ids b i o m:=rfl
theorem c0H (own:Bool) (ids:List Nat) (b s q:Nat):gZ h own ids (.sl b s q)=lcO (h b) own ids b s q:=rfl
def lcA (mk:List V->V):Option (List V×List Nat×List Nat)->Option (V×List Nat×List Nat)
 |some (cs',ids',bs)=>some (mk cs',ids',bs)
 |none=>none
theorem c1E (own:Bool) (ids:List Nat) (cs:List V):gZ h own ids (.agg cs)=lcA V.agg (fM h own ids cs):=by
 simp only [gZ,lcA]
 cases fM h own ids cs<;>rfl
theorem c5g (own:Bool) (ids:List Nat) (f:FuncId) (cs:List V):gZ h own ids (.fn f cs)=lcA (V.fn f) (fM h true ids cs):=by
 simp only [gZ,lcA]
 cases fM h true ids cs<;>rfl
theorem b3T (mk:List V->V) (cs:List V) (i b:List Nat):lcA mk (some (cs,i,b))=some (mk cs,i,b):=rfl
def c4e (h:ba) (own:Bool) (r:List V):Option (V×List Nat×List Nat)->Option (List V×List Nat×List Nat)
 |some (v',ids',bs)=>la2 v' bs (fM h own ids' r)
 |none=>none
theorem WR (own:Bool) (ids:List Nat):fM h own ids []=some ([],ids,[]):=rfl
theorem Ix (own:Bool) (ids:List Nat) (v:V) (r:List V):fM h own ids (v::r)=c4e h own r (fx h own ids v):=by
 simp only [fM,c4e,la2]
 cases fx h own ids v with
 |none=>rfl
 |some p=>obtain ⟨a,b,c⟩:=p;dsimp only;cases fM h own b r<;>rfl
theorem Vw (own:Bool) (r:List V) (v':V) (ids' bs:List Nat):c4e h own r (some (v',ids',bs))=la2 v' bs (fM h own ids' r):=rfl
theorem c3h (ids:List Nat) (b o m:Nat) (row:List V):lcP (some ⟨m,true,[row]⟩) ids b 0 o 1=some (.ptr (n3 b (iC ids b)) 0 o 1,iC ids b,[]):=rfl
theorem c5J (m:Nat) (ids:List Nat) (b s q:Nat) (a:s+q=l.length):lcO (some ⟨m,false,rws e l⟩) true ids b s q=some (.sl (n3 b (iC ids b)) s q,iC ids b,[]):=by
 simp [lcO,rws,a]
theorem c5A (m:Nat) (ids:List Nat) (b q:Nat) (h0:Nat.blt 0 m=true) (a:l.length=q):lcO (some ⟨m,false,rws e l⟩) false ids b 0 q=some (.imm m (rws e l),ids,[b]):=by
 rw [H0,aA] at h0
 simp [lcO,rws,a,h0]
def lb2 (k:Blk):Option (List Blk×List Nat)->Option (List Blk×List Nat)
 |some (r,ids')=>some (k::r,ids')
 |none=>none
def ld2 (v':V):Option (List V×List Nat)->Option (List V×List Nat)
 |some (r',i)=>some (v'::r',i)
 |none=>none
def ld1 (h:ba) (r:List V):Option (V×List Nat×List Nat)->Option (List V×List Nat)
 |some (v',ids',_)=>ld2 v' (uH h ids' r)
 |none=>none
theorem a84 (ids:List Nat):uH h ids []=some ([],ids):=rfl
theorem AG (ids:List Nat) (v:V) (r:List V):uH h ids (v::r)=ld1 h r (gZ h true ids v):=by
 simp only [uH,ld1,ld2]
 cases gZ h true ids v with
 |none=>rfl
 |some p=>obtain ⟨a,b,c⟩:=p;dsimp only;cases uH h b r<;>rfl
theorem GT (r:List V) (v':V) (ids' bs:List Nat):ld1 h r (some (v',ids',bs))=ld2 v' (uH h ids' r):=rfl
theorem b1C (v':V) (r':List V) (i:List Nat):ld2 v' (some (r',i))=some (v'::r',i):=rfl
def lb1 (h:ba) (fuel pos m:Nat):Option (List V×List Nat)->Option (List Blk×List Nat)
 |some (row,ids1)=>lb2 ⟨m,true,[row]⟩ (gN h fuel (pos+1) ids1)
 |none=>none
def lb0 (h:ba) (fuel pos:Nat) (ids:List Nat):Option Blk->Option (List Blk×List Nat)
 |some k=>if k.op=false then lb2 k (gN h fuel (pos+1) ids) else (match sg h ids k.rows with
  |none=>none
  |some (rows,ids1)=>lb2 { k with rows:=rows } (gN h fuel (pos+1) ids1))
 |none=>none
def lbN (h:ba) (fuel pos:Nat) (ids:List Nat):Option Nat->Option (List Blk×List Nat)
 |none=>some ([],ids)
 |some b=>lb0 h fuel pos ids (h b)
theorem a3E (fuel pos:Nat) (ids:List Nat):gN h (fuel+1) pos ids=lbN h fuel pos ids ids[pos]? :=by
 simp only [gN,lbN,lb0]
 cases ids[pos]? with
 |none=>rfl
 |some b=>
  dsimp only
  cases h b with
  |none=>rfl
  |some k=>
   dsimp only
   split
   ·cases gN h fuel (pos+1) ids<;>rfl
   ·cases sg h ids k.rows with
    |none=>rfl
    |some p=>obtain ⟨rows,ids1⟩:=p;dsimp only;cases gN h fuel (pos+1) ids1<;>rfl
theorem b3w (fuel pos:Nat) (ids:List Nat):lbN h fuel pos ids none=some ([],ids):=rfl
theorem b27 (fuel pos:Nat) (ids:List Nat) (b:Nat):lbN h fuel pos ids (some b)=lb0 h fuel pos ids (h b):=rfl
theorem c44 (fuel pos:Nat) (ids:List Nat) (m:Nat) (r:List (List V)):lb0 h fuel pos ids (some ⟨m,false,r⟩)=lb2 ⟨m,false,r⟩ (gN h fuel (pos+1) ids):=rfl
theorem c0U (fuel pos:Nat) (ids:List Nat) (m:Nat) (row:List V):lb0 h fuel pos ids (some ⟨m,true,[row]⟩)=lb1 h fuel pos m (uH h ids row):=by
 simp only [lb0,sg,lb1]
 cases uH h ids row with
 |none=>rfl
 |some p=>obtain ⟨a,b⟩:=p;rfl
theorem b4S (fuel pos m:Nat) (row:List V) (ids1:List Nat):lb1 h fuel pos m (some (row,ids1))=lb2 ⟨m,true,[row]⟩ (gN h fuel (pos+1) ids1):=rfl
theorem b2x (k:Blk) (r:List Blk) (ids:List Nat):lb2 k (some (r,ids))=some (k::r,ids):=rfl
theorem c5T (n:Nat):i9 [] [] n=[]:=rfl
theorem c4N (k:Blk) (r:List Blk) (n:Nat):i9 [] (k::r) n=n::i9 [] r (n+1000000):=rfl
theorem c52 (i:Nat) (ids:List Nat) (k:Blk) (r:List Blk) (n:Nat):i9 (i::ids) (k::r) n=i9 ids r n:=rfl
def cpw (fl:Bool) (new:Nat) (ids bor:List Nat) (r:V) (bs:List Blk) (ns:List Nat):Option (V×Upd):=some (Jo (ids++ns) r,qH (ids++ns) (bs.map (mD (ids++ns)))++br (bor.isEmpty||(Bz r&&bs.all (De fl))) [] (ka bor))
theorem c3f (fl:Bool) (new:Nat) (ids bor:List Nat) (r:V) (bs:List Blk) (ns:List Nat):cpw fl new ids bor r bs ns=some (Jo (ids++ns) r,qH (ids++ns) (bs.map (mD (ids++ns)))++br (bor.isEmpty||(Bz r&&bs.all (De fl))) [] (ka bor)):=rfl
theorem a4t (fl ro:Bool) (new:Nat) (ids bor:List Nat) (r:V) (bs:List Blk):Oi fl ro h new ids bor (some (r,bs))=
 roW ro h (br (Nat.ble ids.length bs.length&&(i9 ids bs new).all (fun b=>(h b).isNone)) (cpw fl new ids bor r bs (i9 ids bs new)) none):=by
 refine congrArg (roW ro h) ?_
 simp only [Aa,cpw,Ku]
 generalize (i9 ids bs new).all (fun b=>(h b).isNone)=c3
 generalize (bor.isEmpty||(Bz r&&bs.all (De fl)))=c4
 by_cases a:ids.length<=bs.length
 ·rw [aj a];cases c3<;>cases c4<;>simp [a,br]
 ·rw [ae a];cases c3<;>cases c4<;>simp [a,br]
theorem a73 (ids:List Nat) (vs:List V):Jo ids (.tup vs)= .tup (vs.map (pV ids)):=rfl
theorem a87 (ids:List Nat) (vs:List V):Jo ids (.agg vs)= .agg (vs.map (unV ids)):=rfl
theorem a6z (ids:List Nat) (v:Value):Jo ids (.lit v)= .lit v:=rfl
theorem a7L (ids:List Nat) (b i o m:Nat):Jo ids (.ptr b i o m)= .ptr (ids.getD b 0) i o m:=rfl
theorem a6y (ids:List Nat) (b s q:Nat):Jo ids (.sl b s q)= .sl (ids.getD b 0) s q:=rfl
theorem a6R (ids:List Nat) (vs:List V):pV ids (.agg vs)= .agg (vs.map (unV ids)):=rfl
theorem a7p (ids:List Nat) (v:Value):pV ids (.lit v)= .lit v:=rfl
theorem a8y (ids:List Nat) (b i o m:Nat):pV ids (.ptr b i o m)= .ptr (ids.getD b 0) i o m:=rfl
theorem a8S (ids:List Nat) (b s q:Nat):pV ids (.sl b s q)= .sl (ids.getD b 0) s q:=rfl
theorem b9u (ids:List Nat) (v:Value):unV ids (.lit v)= .lit v:=rfl
theorem b1n (ids:List Nat) (f:FuncId) (cs:List V):pV ids (.fn f cs)= .fn f (cs.map (unV ids)):=rfl
theorem b6y (ids:List Nat) (b i o m:Nat):unV ids (.ptr b i o m)= .ptr (ids.getD b 0) i o m:=rfl
theorem b4l (ids:List Nat) (m:Nat) (r:List (List V)):mD ids ⟨m,false,r⟩=⟨m,false,r⟩:=rfl
theorem a98 (ids:List Nat) (m:Nat) (row:List V):mD ids ⟨m,true,[row]⟩=⟨m,true,[row.map (pV ids)]⟩:=rfl
theorem c2g (v:Value):Bz (.lit v)=true:=rfl
theorem c1a (vs:List V):Bz (.agg vs)=vs.all vG:=rfl
theorem c1Z (vs:List V):Bz (.tup vs)=vs.all SV:=rfl
theorem c3R (b i o m:Nat):Bz (.ptr b i o m)=true:=rfl
theorem c39 (b s q:Nat):Bz (.sl b s q)=true:=rfl
theorem b8V (v:Value):SV (.lit v)=true:=rfl
theorem b6Z (vs:List V):SV (.agg vs)=vs.all vG:=rfl
theorem b6h (v:Value):vG (.lit v)=true:=rfl
theorem c4n (f:FuncId) (cs:List V):vG (.fn f cs)=false:=rfl
theorem b7l (b i o m:Nat):vG (.ptr b i o m)=true:=rfl
theorem b8r (b s q:Nat):vG (.sl b s q)=true:=rfl
theorem c1n (m:Nat) (r:List (List V)):De false ⟨m,false,r⟩=false:=rfl
theorem c2v (fl:Bool) (m:Nat) (row:List V):De fl ⟨m,true,[row]⟩=row.all vG:=by simp [De]
def b6j (raw:Bool) (m:Nat):Option (List V)->Option (List Blk)->Option (V×List Blk)
 |some vs',some bs=>br (Nat.ble m 1000) (some ((Yo vs').czR,br raw bs (bs.map Blk.cz))) none
 |_,_=>none
def a1f (keep raw:Bool) (m:Nat) (h:ba):Option (List V)->Option (V×List Blk)
 |some vs=>b6j raw m (yZ h m (br keep (oA raw h m vs) []) vs) (yk h m (br keep (oA raw h m vs) []) (List.range m++(br keep (oA raw h m vs) [])))
 |none=>none
theorem a5g (nt:Nat) (body:aU) (res:List Ib) (keep raw:Bool) (m:Nat) (st:St) (x:dd) (a:x= .ret\/x= .normal):a2h ⟨nt,body,res,keep,raw⟩ m x st=a1f keep raw m st.heap (oU st res):=by
 have b: ∀vs:List V,(if keep=true then oA raw st.heap m vs else [])=br keep (oA raw st.heap m vs) []:=fun vs=>by cases keep<;>rfl
 have:a2h ⟨nt,body,res,keep,raw⟩ m x st=a2h ⟨nt,body,res,keep,raw⟩ m .ret st:=by rcases a with rfl|rfl<;>rfl
 rw [this]
 simp only [a2h,mX,a1f,b6j,YN,b,Ku]
 cases oU st res with
 |none=>rfl
 |some vs=>
  dsimp only
  cases yZ st.heap m (br keep (oA raw st.heap m vs) []) vs with
  |none=>rfl
  |some vs'=>
   cases yk st.heap m (br keep (oA raw st.heap m vs) []) (List.range m++(br keep (oA raw st.heap m vs) [])) with
   |none=>rfl
   |some bs=>by_cases c:m<=1000<;>cases raw<;>simp [c,br]
theorem b5r (nt:Nat) (body:aU) (res:List Ib) (keep raw:Bool) (m:Nat) (st:St):a2h ⟨nt,body,res,keep,raw⟩ m .ret st=a1f keep raw m st.heap (oU st res):=a5g _ _ _ _ _ _ _ _ (.inl rfl)
theorem a0l (nt:Nat) (body:aU) (res:List Ib) (keep raw:Bool) (m:Nat) (st:St):a2h ⟨nt,body,res,keep,raw⟩ m .normal st=a1f keep raw m st.heap (oU st res):=a5g _ _ _ _ _ _ _ _ (.inr rfl)
theorem a7c (keep raw:Bool) (m:Nat) (vs:List V):a1f keep raw m h (some vs)=b6j raw m (yZ h m (br keep (oA raw h m vs) []) vs) (yk h m (br keep (oA raw h m vs) []) (List.range m++(br keep (oA raw h m vs) []))):=rfl
theorem a7w (raw:Bool) (m:Nat) (vs:List V) (bs:List Blk):b6j raw m (some vs) (some bs)=br (Nat.ble m 1000) (some ((Yo vs).czR,br raw bs (bs.map Blk.cz))) none:=rfl
def rs1:Option V->Option (List V)->Option (List V)
 |some v,some vs=>some (v::vs)
 |_,_=>none
theorem b4T (st:St):oU st []=some []:=rfl
theorem a8c (st:St) (r:Ib) (rs:List Ib):oU st (r::rs)=rs1 (Io st r) (oU st rs):=by
 simp only [oU,rs1]
 cases Io st r<;>cases oU st rs<;>rfl
theorem b3a (v:V) (vs:List V):rs1 (some v) (some vs)=some (v::vs):=rfl
theorem b9G (st:St) (t:Nat):Io st (.tmp t)=some (st.get t):=rfl
theorem b4j (st:St) (t:Nat) (g:Option Nat):Io st (.cell t g)=AP g st.heap (st.get t):=rfl
def c7k:Option V->Option (List V)->Option (List V)
 |some v,some vs=>some (v::vs)
 |_,_=>none
theorem a7u (m:Nat) (kp:List Nat):yZ h m kp []=some []:=rfl
theorem a42 (m:Nat) (kp:List Nat) (v:V) (r:List V):yZ h m kp (v::r)=rs1 (KZ h m kp v) (yZ h m kp r):=by
 simp only [yZ,rs1]
 cases KZ h m kp v<;>cases yZ h m kp r<;>rfl
theorem a8j (m:Nat) (kp:List Nat):yR h m kp []=some []:=rfl
theorem Rh (m:Nat) (kp:List Nat) (v:V) (r:List V):yR h m kp (v::r)=rs1 (vP h m kp v) (yR h m kp r):=by
 simp only [yR,rs1]
 cases vP h m kp v<;>cases yR h m kp r<;>rfl
def fag:Option (List V)->Option V
 |some cs=>some (.agg cs)
 |none=>none
theorem b01 (m:Nat) (kp:List Nat) (cs:List V):KZ h m kp (.agg cs)=fag (yR h m kp cs):=by
 simp only [KZ,fag]
 cases yR h m kp cs<;>rfl
theorem b0P (cs:List V):fag (some cs)=some (.agg cs):=rfl
theorem b2w (m:Nat) (kp:List Nat) (v:Value):KZ h m kp (.lit v)=some (.lit v):=rfl
theorem b3O (m:Nat) (kp:List Nat) (v:Value):vP h m kp (.lit v)=some (.lit v):=rfl
def b86:Option (V×List Nat)->Option V
 |some (v,_)=>some v
 |none=>none
def fcO (h:ba) (m:Nat) (kp:List Nat) (b s q:Nat):Option V:=br (Nat.blt b m) (some (.sl b s q)) (br (kp.contains b) (some (.sl (m+n3 b kp) s q)) (b86 (uO h (.sl b s q))))
theorem Qs (m:Nat) (kp:List Nat) (b s q:Nat):vP h m kp (.sl b s q)=fcO h m kp b s q:=by
 simp only [vP,fcO,H0,b86]
 by_cases a:b<m
 ·simp [a,br]
 ·by_cases c:b∈kp
  ·simp [a,c,br]
  ·have:kp.contains b=false:=by simpa using c
   simp only [a,c,this,if_false,decide_false,bu]
   cases uO h (.sl b s q)<;>rfl
theorem b02 (m:Nat) (kp:List Nat) (b s q:Nat):KZ h m kp (.sl b s q)=fcO h m kp b s q:=Qs m kp b s q
theorem c3i (m:Nat) (kp:List Nat) (b s q:Nat):fcO h m kp b s q=br (Nat.blt b m) (some (.sl b s q)) (br (kp.contains b) (some (.sl (m+n3 b kp) s q)) (b86 (uO h (.sl b s q)))):=rfl
theorem a8n (v:V) (bs:List Nat):b86 (some (v,bs))=some v:=rfl
def fcP (m:Nat) (kp:List Nat) (b i o q:Nat):Option V:=br (Nat.blt b m) (some (.ptr b i o q)) (br (kp.contains b) (some (.ptr (m+n3 b kp) i o q)) none)
theorem Q8 (m:Nat) (kp:List Nat) (b i o q:Nat):vP h m kp (.ptr b i o q)=fcP m kp b i o q:=by
 simp only [vP,fcP,H0]
 by_cases a:b<m
 ·simp [a,br]
 ·by_cases c:b∈kp
  ·simp [a,c,br]
  ·have:kp.contains b=false:=by simpa using c
   simp [a,c,this,br]
theorem b5f (m:Nat) (kp:List Nat) (b i o q:Nat):KZ h m kp (.ptr b i o q)=fcP m kp b i o q:=Q8 (h:=h) m kp b i o q
theorem c0E (m:Nat) (kp:List Nat) (b i o q:Nat):fcP m kp b i o q=br (Nat.blt b m) (some (.ptr b i o q)) (br (kp.contains b) (some (.ptr (m+n3 b kp) i o q)) none):=rfl
def fb2:Option Blk->Option (List Blk)->Option (List Blk)
 |some k,some r=>some (k::r)
 |_,_=>none
def fb1 (h:ba) (m:Nat) (kp r:List Nat):Option Blk->Option (List Blk)
 |some k=>fb2 (SE h m kp k) (yk h m kp r)
 |none=>none
theorem a8w (m:Nat) (kp:List Nat):yk h m kp []=some []:=rfl
theorem a3R (m:Nat) (kp:List Nat) (b:Nat) (r:List Nat):yk h m kp (b::r)=fb1 h m kp r (h b):=by
 simp only [yk,fb1,fb2]
 cases h b with
 |none=>rfl
 |some k=>dsimp only;cases SE h m kp k<;>cases yk h m kp r<;>rfl
theorem b4k (m:Nat) (kp r:List Nat) (k:Blk):fb1 h m kp r (some k)=fb2 (SE h m kp k) (yk h m kp r):=rfl
theorem b0G (k:Blk) (r:List Blk):fb2 (some k) (some r)=some (k::r):=rfl
theorem b5F (m:Nat) (kp:List Nat) (q:Nat) (r:List (List V)):SE h m kp ⟨q,false,r⟩=some ⟨q,false,r⟩:=rfl
def fbO (q:Nat):Option (List V)->Option Blk
 |some row=>some ⟨q,true,[row]⟩
 |none=>none
theorem a9h (m:Nat) (kp:List Nat):BQ h m kp []=some []:=rfl
theorem AK (m:Nat) (kp:List Nat) (v:V) (r:List V):BQ h m kp (v::r)=rs1 (Nl h m kp v) (BQ h m kp r):=by
 simp only [BQ,rs1]
 cases Nl h m kp v<;>cases BQ h m kp r<;>rfl
def fnR (f:FuncId):Option (List V)->Option V
 |some cs=>some (.fn f cs)
 |none=>none
theorem b05 (f:FuncId) (cs:List V):fnR f (some cs)=some (.fn f cs):=rfl
theorem b0s (m:Nat) (kp:List Nat) (f:FuncId):Nl h m kp (.fn f [])=some (.fn f []):=rfl
theorem b7D (m:Nat) (kp:List Nat) (f:FuncId) (c:V) (cs:List V):Nl h m kp (.fn f (c::cs))=fnR f (yR h m kp (c::cs)):=by
 simp only [Nl,fnR]
 cases yR h m kp (c::cs)<;>rfl
theorem b0c (m:Nat) (kp:List Nat) (v:Value):Nl h m kp (.lit v)=some (.lit v):=rfl
theorem b5z (m:Nat) (kp:List Nat) (b s q:Nat):Nl h m kp (.sl b s q)=fcO h m kp b s q:=Qs m kp b s q
theorem b29 (m:Nat) (kp:List Nat) (b i o q:Nat):Nl h m kp (.ptr b i o q)=fcP m kp b i o q:=Q8 (h:=h) m kp b i o q
theorem b6p (m:Nat) (kp:List Nat) (q:Nat) (row:List V):SE h m kp ⟨q,true,[row]⟩=fbO q (BQ h m kp row):=by
 simp only [SE,xG,fbO]
 cases BQ h m kp row<;>rfl
theorem b1O (q:Nat) (row:List V):fbO q (some row)=some ⟨q,true,[row]⟩:=rfl
theorem b1E (t u:Nat) (v:V) (r:List (Nat×V)) (m:List (Nat×Blk)):St.get ⟨(u,v)::r,m⟩ t=if u=t then v else St.get ⟨r,m⟩ t:=by
 simp only [St.get,eH]
 split<;>rfl
theorem b6u (t:Nat) (m:List (Nat×Blk)):St.get ⟨[],m⟩ t= .undef:=rfl
theorem a6V (b c:Nat) (k:Blk) (r:List (Nat×Blk)) (x:List (Nat×V)):St.heap ⟨x,(c,k)::r⟩ b=if c=b then some k else St.heap ⟨x,r⟩ b:=rfl
theorem b3h (b:Nat) (x:List (Nat×V)):St.heap ⟨x,[]⟩ b=none:=rfl
theorem b3y (x:List (Nat×V)) (m:List (Nat×Blk)) (d:Nat) (v:V):St.put ⟨x,m⟩ (some d) v=⟨(d,v)::x,m⟩:=rfl
theorem a9P (st:St) (v:V):st.put none v=st:=rfl
theorem c2D (x:List (Nat×V)) (m:List (Nat×Blk)) (u:Upd):St.upd ⟨x,m⟩ u=⟨x,a1o m u⟩:=rfl
theorem b8B (st:St):st.upd []=st:=rfl
theorem b03 (m:List (Nat×Blk)):a1o m []=m:=rfl
theorem a6Q (m:List (Nat×Blk)) (b:Nat) (k:Blk) (r:Upd):a1o m ((b,k)::r)=a1o (lm b k m) r:=rfl
theorem b5b {β:Type} (k:Nat) (v:β):lm k v []=[(k,v)]:=rfl
theorem a8e {β:Type} (k j:Nat) (v u:β) (r:List (Nat×β)):lm k v ((j,u)::r)=if j=k then (j,v)::r else (j,u)::lm k v r:=rfl
theorem c78 (st:St) (t:Nat):st.ev (.t t)=st.get t:=rfl
theorem c7b (st:St) (v:Value):st.ev (.c v)= .lit v:=rfl
theorem c74 (st:St) (f:FuncId):st.ev (.f f)= .fn f []:=rfl
theorem b9C (live:List Nat) (x:List (Nat×V)) (m:List (Nat×Blk)):trim live ⟨x,m⟩=⟨live.map fun t=>(t,St.get ⟨x,m⟩ t),m⟩:=rfl
theorem a3u {β:Type} (n:Nat):uf n ([]:List β)=[]:=rfl
theorem YP {β:Type} (n:Nat) (x:β) (r:List β):uf n (x::r)=(n,x)::uf (n+1) r:=rfl
theorem start_eq (a:List V) (b:List Blk):start a b=⟨uf 0 a,uf 0 b⟩:=rfl
theorem a1B:jz ev []=[]:=rfl
theorem YA (a b:Nat) (x:Opd) (r:List (Nat×Nat×Opd)):jz ev ((a,b,x)::r)=(a,b,ev x)::jz ev r:=rfl
theorem a85 (cs:List V):OX cs []=some cs:=rfl
theorem a2b (cs:List V) (off size:Nat) (v:V) (r:List (Nat×Nat×V)):OX cs ((off,size,v)::r)=br (Nat.beq v.cells.length size&&Nat.ble (off+size) cs.length&&v.cells.all V.cell) (OX (cs.take off++(v.cells++cs.drop (off+size))) r) none:=rfl
theorem a8B (m:Nat) (r:List (List V)):KP m r []=some r:=rfl
theorem a2l (m:Nat) (rows:List (List V)) (i:Nat) (v:V) (r:List (Nat×V)):KP m rows ((i,v)::r)=br (Nat.beq v.cells.length m&&(Nat.blt i rows.length&&v.cells.all V.cell)) (KP m (rows.set i v.cells) r) none:=rfl
theorem a7q (cs:List V):(V.agg cs).cells=cs:=rfl
theorem Vt (v:Value):(V.lit v).cells=[.lit v]:=rfl
theorem a7r (b s q:Nat):(V.sl b s q).cells=[.sl b s q]:=rfl
theorem a8T (b i o m:Nat):(V.ptr b i o m).cells=[.ptr b i o m]:=rfl
theorem b3F (f:FuncId) (cs:List V):(V.fn f cs).cells=[.fn f cs]:=rfl
theorem ZK (k:IntKind) (a:Int):(V.lit (.int k a)).cell=true:=rfl
theorem b3k (a:ByteArray):(V.lit (.string a)).cell=true:=rfl
theorem b0V (a:Option Addr) (n m:Nat):(V.lit (.slice a n m)).cell=true:=rfl
theorem b2k (b s q:Nat):(V.sl b s q).cell=true:=rfl
theorem a9Y (b i o m:Nat):(V.ptr b i o m).cell=true:=rfl
theorem b5G (f:FuncId) (cs:List V):(V.fn f cs).cell=true:=rfl
theorem b9W (k:IntKind) (a:Int):cF (.int k a)=true:=rfl
theorem b7O (a:ByteArray):cF (.string a)=true:=rfl
theorem b74 (a:Option Addr) (n m:Nat):cF (.slice a n m)=true:=rfl
theorem a8g:ka []=[]:=rfl
theorem a4q (b:Nat) (r:List Nat):ka (b::r)=(b,kj)::ka r:=rfl
theorem b7o (ids:List Nat):qH ids []=[]:=by cases ids<;>rfl
theorem b1g (i:Nat) (ids:List Nat) (k:Blk) (r:List Blk):qH (i::ids) (k::r)=(i,k)::qH ids r:=rfl
theorem b1X (b x:Nat) (r:List Nat):n3 b (x::r)=if x=b then 0 else n3 b r+1:=rfl
theorem a9q (ids:List Nat) (b:Nat):iC ids b=br (ids.contains b) ids (ids++[b]):=by
 unfold iC
 by_cases h:b∈ids<;>simp [h,br]
theorem b28 (v:V):Yo [v]=v:=rfl
theorem b2s:Yo []= .tup []:=rfl
theorem b4g (a b:V) (r:List V):Yo (a::b::r)= .tup (a::b::r):=rfl
theorem a44 (o:List Nat) (a:List V):xz o a=br (o.contains 1000) a (a.map V.czA):=by
 unfold xz;cases o.contains 1000<;>rfl
theorem a2V (o:List Nat) (a:List Blk):wX o a=br (o.contains 1000) a (a.map Blk.cz):=by
 unfold wX;cases o.contains 1000<;>rfl
def a34 (st:St) (bs:List Nat):St:={ e:=Su (fzA st.heap bs) st.e,m:=fzM st.heap bs st.m }
theorem b31 (st:St) (bs:List Nat):dN st (.close bs)=br (bs.all (fun b=>Nat.ble 1000 b)) (some (a34 st bs)) none:=by
 simp only [dN,a34,Ku]
 cases bs.all (fun b=>decide (1000<=b))<;>rfl
theorem a71 (x:List (Nat×V)) (m:List (Nat×Blk)) (bs:List Nat):a34 ⟨x,m⟩ bs=⟨Su (fzA (St.heap ⟨x,m⟩) bs) x,fzM (St.heap ⟨x,m⟩) bs m⟩:=rfl
theorem b26 (g:V->V):Su g []=[]:=rfl
theorem a8o (g:V->V) (t:Nat) (v:V) (r:List (Nat×V)):Su g ((t,v)::r)=(t,g v)::Su g r:=rfl
variable {bs:List Nat}
theorem c4c (v:Value):fzA h bs (.lit v)= .lit v:=rfl
theorem b5n:fzA h bs .undef= .undef:=rfl
def fzO:Option (V×List Nat)->V
 |some (v,_)=>v.cz
 |none=> .undef
theorem b5e (b s q:Nat):fzA h bs (.sl b s q)=br (bs.contains b) (fzO (uO h (.sl b s q))) (.sl b s q):=by
 simp only [fzA,fzC,fzO]
 by_cases a:b∈bs
 ·simp [a,br];cases uO h (.sl b s q)<;>rfl
 ·simp [a,br]
theorem b0f (b i o m:Nat):fzA h bs (.ptr b i o m)=br (bs.contains b) .undef (.ptr b i o m):=by
 simp only [fzA,fzC]
 by_cases a:b∈bs<;>simp [a,br]
theorem b2l (v:V) (b:List Nat):fzO (some (v,b))=v.cz:=rfl
theorem c2L (cs:List V):fzA h bs (.agg cs)=br ((cs.map (fzC h bs)).all V.cell) (.agg (cs.map (fzC h bs))) .undef:=by
 simp only [fzA]
 cases (cs.map (fzC h bs)).all V.cell<;>rfl
theorem c05 (f:FuncId) (cs:List V):fzA h bs (.fn f cs)=br (cs.all okC&& !(cs.flatMap EO).any (fun b=>bs.contains b)) (.fn f cs) .undef:=by
 simp only [fzA,fzC]
 have:(fun b=>decide (b∈bs))=fun b=>bs.contains b:=by funext b;simp [Bool.eq_iff_iff]
 rw [this]
 cases (cs.all okC&& !(cs.flatMap EO).any (fun b=>bs.contains b))<;>rfl
theorem b8X (v:Value):fzC h bs (.lit v)= .lit v:=rfl
theorem c0K (f:FuncId) (cs:List V):fzC h bs (.fn f cs)=br (cs.all okC&& !(cs.flatMap EO).any (fun b=>bs.contains b)) (.fn f cs) .undef:=c05 (h:=h) f cs
theorem b7E (b i o m:Nat):okC (.ptr b i o m)=true:=rfl
theorem b8A (b s q:Nat):fzC h bs (.sl b s q)=br (bs.contains b) (fzO (uO h (.sl b s q))) (.sl b s q):=b5e b s q
theorem b5Q (b i o m:Nat):fzC h bs (.ptr b i o m)=br (bs.contains b) .undef (.ptr b i o m):=b0f (h:=h) b i o m
theorem b85:fzM h bs []=[]:=rfl
def fzK (h:ba) (bs:List Nat) (k:Blk):Blk:=if k.op then (if (k.rows.map (·.map (fzC h bs))).all (·.all V.cell) then { k with rows:=k.rows.map (·.map (fzC h bs)) } else kj) else k
theorem a9F (b:Nat) (k:Blk) (r:List (Nat×Blk)):fzM h bs ((b,k)::r)=br (bs.contains b) (fzM h bs r) ((b,fzK h bs k)::fzM h bs r):=by
 simp only [fzM,fzK]
 by_cases a:b∈bs<;>simp [a,br]
theorem c3B (m:Nat) (r:List (List V)):fzK h bs ⟨m,false,r⟩=⟨m,false,r⟩:=rfl
theorem c2V (m:Nat) (row:List V):fzK h bs ⟨m,true,[row]⟩=br ((row.map (fzC h bs)).all V.cell) ⟨m,true,[row.map (fzC h bs)]⟩ kj:=by
 simp only [fzK,aM,eu,cC,List.all_nil,dO,if_true]
 cases (row.map (fzC h bs)).all V.cell<;>rfl
section
variable {R:Type} {T:Tab} {ow:fe} {k:dd->St->Option R} {d:Option Nat} {n:Nat} {ss:List cw} {live:List Nat} {K:List Fr} {st:St} {base i:Nat} {deps:List (List Nat)} {rs:List Rec} {fp:List Nat} {r:R}
theorem dq {fl ro:Bool} {h:ba} {new:Nat} {ids bor:List Nat} {x:Option (V×List Blk)} {p:V×List Blk} (a:x=some p) (b:aft T ow k d n ss live K st (Oi fl ro h new ids bor (some p))=some r):aft T ow k d n ss live K st (Oi fl ro h new ids bor x)=some r:=by
 rw [a];exact b
theorem ld {fl ro:Bool} {h:ba} {new:Nat} {ids bor:List Nat} {x:Option (V×List Blk)} {p:V×List Blk} (a:x=some p) (b:QE T ow k d base i ss deps live rs K st fp (Oi fl ro h new ids bor (some p))=some r):QE T ow k d base i ss deps live rs K st fp (Oi fl ro h new ids bor x)=some r:=by
 rw [a];exact b
theorem c5p (b:Int):nn b=decide (0<=b):=rfl
theorem c58 (b:Int):nz b=decide (b≠0):=rfl
theorem c43 (i:Int) (n:Nat):inb i n=(decide (0<=i)&&decide (i.toNat<n)):=rfl
end
end
section
variable {ow:fe} {ev:Opd->V} {h:ba} {α:Type} {e:En α} {l:List α}
theorem c53 (x:Opd):mY ow (.mv x) ev h=[]:=rfl
theorem b9b (c a b:Opd):mY ow (.pick c a b) ev h=((AOp.pick c a b).opds.map ev).flatMap ny:=rfl
theorem b5Y (c a b:Opd):(AOp.pick c a b).opds=[c,a,b]:=rfl
theorem b3x (z:List Value):mY ow (.alloc z) ev h=((AOp.alloc z).opds.map ev).flatMap ny:=rfl
theorem b2R (z:List Value):(AOp.alloc z).opds=[]:=rfl
theorem a9E (z:List Value) (ps:List (Nat×Nat×Opd)):mY ow (.build z ps) ev h=((AOp.build z ps).opds.map ev).flatMap ny:=rfl
theorem b2o (z:List Value) (ps:List (Nat×Nat×Opd)):(AOp.build z ps).opds=ps.map (·.2.2):=rfl
theorem Ua (m:Nat) (z:List Value) (l:Nat) (ps:List (Nat×Opd)):mY ow (.buildSlice m z l ps) ev h=((AOp.buildSlice m z l ps).opds.map ev).flatMap ny:=rfl
theorem UC (m:Nat) (z:List Value) (l:Nat) (ps:List (Nat×Opd)):(AOp.buildSlice m z l ps).opds=ps.map (·.2):=rfl
theorem b6R (g:Option Nat) (x:Opd):mY ow (.load g x) ev h=((AOp.load g x).opds.map ev).flatMap ny:=rfl
theorem b79 (g:Option Nat) (x:Opd):(AOp.load g x).opds=[x]:=rfl
theorem b2b (m:Nat) (x y:Opd):mY ow (.store m x y) ev h=((AOp.store m x y).opds.map ev).flatMap ny:=rfl
theorem b5q (m:Nat) (x y:Opd):(AOp.store m x y).opds=[x,y]:=rfl
theorem Zx (x:Opd):mY ow (.nilCheck x) ev h=((AOp.nilCheck x).opds.map ev).flatMap ny:=rfl
theorem a0B (x:Opd):(AOp.nilCheck x).opds=[x]:=rfl
theorem c2Z (op:BinOp) (x y:Opd):mY ow (.bin op x y) ev h=((AOp.bin op x y).opds.map ev).flatMap ny:=rfl
theorem c2j (op:BinOp) (x y:Opd):(AOp.bin op x y).opds=[x,y]:=rfl
theorem b1L (b:Bool) (ks:List Bool) (x y:Opd):mY ow (.eqAgg b ks x y) ev h=((AOp.eqAgg b ks x y).opds.map ev).flatMap ny:=rfl
theorem b0W (b:Bool) (ks:List Bool) (x y:Opd):(AOp.eqAgg b ks x y).opds=[x,y]:=rfl
theorem c6i (op:UnOp) (x:Opd):mY ow (.un op x) ev h=((AOp.un op x).opds.map ev).flatMap ny:=rfl
theorem c55 (op:UnOp) (x:Opd):(AOp.un op x).opds=[x]:=rfl
theorem b1A (k:IntKind) (x:Opd):mY ow (.toInt k x) ev h=((AOp.toInt k x).opds.map ev).flatMap ny:=rfl
theorem b0Z (k:IntKind) (x:Opd):(AOp.toInt k x).opds=[x]:=rfl
theorem a28 (x:Opd):mY ow (.toBytes x) ev h=((AOp.toBytes x).opds.map ev).flatMap ny:=rfl
theorem a2d (x:Opd):(AOp.toBytes x).opds=[x]:=rfl
theorem b5g (x:Opd):mY ow (.toStr x) ev h=((AOp.toStr x).opds.map ev).flatMap ny:=rfl
theorem b43 (x:Opd):(AOp.toStr x).opds=[x]:=rfl
theorem a0x (f:FuncId) (cs:List Opd):mY ow (.makeFunc f cs) ev h=[]:=rfl
theorem Ym (m b:Nat) (z:List Value) (x y:Opd):mY ow (.makeSlice m b z x y) ev h=((AOp.makeSlice m b z x y).opds.map ev).flatMap ny:=rfl
theorem Xi (m b:Nat) (z:List Value) (x y:Opd):(AOp.makeSlice m b z x y).opds=[x,y]:=rfl
theorem Z9 (x:Opd) (lo hi:Option Opd):mY ow (.sliceStr x lo hi) ev h=((AOp.sliceStr x lo hi).opds.map ev).flatMap ny:=rfl
theorem a00 (x:Opd) (lo hi:Option Opd):(AOp.sliceStr x lo hi).opds=x::(Lp lo++Lp hi):=rfl
theorem b3v (m:Nat) (x:Opd) (lo hi mx:Option Opd):mY ow (.slice m x lo hi mx) ev h=((AOp.slice m x lo hi mx).opds.map ev).flatMap ny:=rfl
theorem b3e (m:Nat) (x:Opd) (lo hi mx:Option Opd):(AOp.slice m x lo hi mx).opds=x::(Lp lo++(Lp hi++Lp mx)):=rfl
theorem c1O (m:Nat) (x:Opd):mY ow (.off m x) ev h=[]:=rfl
theorem b2m (m:Nat) (g:Option Nat) (x:Opd):mY ow (.field m g x) ev h=((AOp.field m g x).opds.map ev).flatMap ny:=rfl
theorem b1z (m:Nat) (g:Option Nat) (x:Opd):(AOp.field m g x).opds=[x]:=rfl
theorem c3T (m:Nat) (x y:Opd):mY ow (.idx m x y) ev h=((AOp.idx m x y).opds.map ev).flatMap ny:=rfl
theorem c3o (m:Nat) (x y:Opd):(AOp.idx m x y).opds=[x,y]:=rfl
theorem a9w (m q:Nat) (x y:Opd):mY ow (.idxArr m q x y) ev h=((AOp.idxArr m q x y).opds.map ev).flatMap ny:=rfl
theorem a8Z (m q:Nat) (x y:Opd):(AOp.idxArr m q x y).opds=[x,y]:=rfl
theorem b4B (x y:Opd):mY ow (.ixStr x y) ev h=((AOp.ixStr x y).opds.map ev).flatMap ny:=rfl
theorem b2g (x y:Opd):(AOp.ixStr x y).opds=[x,y]:=rfl
theorem c3s (x:Opd) (i:Nat):mY ow (.ext x i) ev h=[]:=rfl
theorem c0J (b:Bool) (x:Opd):mY ow (.len b x) ev h=[]:=rfl
theorem a9n (m b:Nat) (z:List Value) (x y:Opd):mY ow (.append m b z x y) ev h=((AOp.append m b z x y).opds.map ev).flatMap ny:=rfl
theorem a7s (m b:Nat) (z:List Value) (x y:Opd):(AOp.append m b z x y).opds=[x,y]:=rfl
theorem b8y (x y:Opd):mY ow (.max2 x y) ev h=((AOp.max2 x y).opds.map ev).flatMap ny:=rfl
theorem b6M (x y:Opd):(AOp.max2 x y).opds=[x,y]:=rfl
theorem a0R (x:Opd):mY ow (.bytesOwn x) ev h=((AOp.bytesOwn x).opds.map ev).flatMap ny:=rfl
theorem YZ (x:Opd):(AOp.bytesOwn x).opds=[x]:=rfl
theorem b1r (m:Nat) (x:Opd):mY ow (.arrOf m x) ev h=((AOp.arrOf m x).opds.map ev).flatMap ny:=rfl
theorem b08 (m:Nat) (x:Opd):(AOp.arrOf m x).opds=[x]:=rfl
theorem c2K (x:Opd):Lp (some x)=[x]:=rfl
theorem c1Y:Lp none=[]:=rfl
def fpC:Option (List V×List Blk×List Nat×List Nat)->List Nat
 |some (_,_,ids,bor)=>ids++bor
 |none=>[]
theorem a9O (a:List V) (b:List Blk) (ids bor:List Nat):fpC (some (a,b,ids,bor))=ids++bor:=rfl
theorem b8m (f:FuncId) (args:List Opd):mY ow (.call f args) ev h=fpC (gi ow h f (args.map ev)):=by
 show N9 ow h f (args.map ev)=_
 unfold N9 fpC
 cases gi ow h f (args.map ev)<;>rfl
def fpD (ow:fe) (h:ba) (args:List V):V->List Nat
 | .fn k caps=>fpC (gi ow h k (args++caps))
 |_=>[]
theorem c0D (f:Opd) (args:List Opd):mY ow (.dyn f args) ev h=fpD ow h (args.map ev) (ev f):=by
 show (match ev f with
  | .fn k caps=>N9 ow h k (args.map ev++caps)
  |_=>[])=_
 cases ev f<;>first|rfl| (simp only [fpD,N9,fpC];cases gi ow h _ _<;>rfl)
theorem c3x (args:List V) (k:FuncId) (caps:List V):fpD ow h args (.fn k caps)=fpC (gi ow h k (args++caps)):=rfl
theorem b7r (cs:List V):ny (.agg cs)=cs.flatMap EO:=rfl
theorem b9t (v:Value):ny (.lit v)=[]:=rfl
theorem b30 (r:List V) (o:Nat):ny (.iptr r o)=[]:=rfl
theorem b5M (b i o m:Nat):ny (.ptr b i o m)=[b]:=rfl
theorem b8a (b s q:Nat):ny (.sl b s q)=[b]:=rfl
theorem b6S (v:Value):EO (.lit v)=[]:=rfl
theorem b6W (b i o m:Nat):EO (.ptr b i o m)=[b]:=rfl
theorem b6L (b s q:Nat):EO (.sl b s q)=[b]:=rfl
theorem ZZ (fp:List Nat) (b:Nat):vR h fp b=br (fp.contains b) (h b) none:=by
 unfold vR
 by_cases a:b∈fp<;>simp [a,br]
theorem b72 (rs:List Rec) (i:Nat) (fp wr:List Nat):b0t rs i fp wr=br (fp.isEmpty&&wr.isEmpty) rs (rs++[⟨i,fp,wr⟩]):=by
 have h:Rec.loud ⟨i,fp,wr⟩= !(fp.isEmpty&&wr.isEmpty):=rfl
 unfold b0t
 cases a:Rec.loud ⟨i,fp,wr⟩ with
 |true=>
  rw [a] at h
  have b:(fp.isEmpty&&wr.isEmpty)=false:=by
   cases c:fp.isEmpty&&wr.isEmpty with
   |false=>rfl
   |true=>rw [c] at h;cases h
  rw [b,bu,List.filter_cons_of_pos a];rfl
 |false=>
  rw [a] at h
  have b:(fp.isEmpty&&wr.isEmpty)=true:=by
   cases c:fp.isEmpty&&wr.isEmpty with
   |true=>rfl
   |false=>rw [c] at h;cases h
  rw [b,dj,List.filter_cons_of_neg (by rw [a];decide)];simp
theorem a9y (deps:List (List Nat)):tO deps []=true:=rfl
theorem a3N (deps:List (List Nat)) (p:Rec) (r:List Rec):tO deps (p::r)=(G0 deps p r&&tO deps r):=rfl
theorem b7H (deps:List (List Nat)) (p:Rec):G0 deps p []=true:=rfl
theorem b35 (deps:List (List Nat)) (i j:Nat) (f g w u:List Nat) (r:List Rec):G0 deps ⟨i,f,w⟩ (⟨j,g,u⟩::r)=((w.isEmpty&&u.isEmpty||(deps.getD j []).contains i|| !(w.any (fun b=>decide (b∈g)||decide (b∈u))||u.any (fun b=>decide (b∈f))))&&G0 deps ⟨i,f,w⟩ r):=rfl
theorem a3m {β:Type} (a d:β) (r:List β):(a::r).getD 0 d=a:=rfl
theorem a32 {β:Type} (a d:β) (n:Nat) (r:List β):(a::r).getD (n+1) d=r.getD n d:=rfl
theorem b8C (m:Nat) (cs:List V) (n:Nat):c1H m cs h n=br (Nat.beq cs.length m&&cs.all V.cell) (frO (h n) n ⟨m,true,[cs]⟩ (.ptr n 0 0 1)) none:=rfl
theorem ai (x:Int) (a: -9223372036854775808<=x) (b:x<9223372036854775808):IntKind.wrap .i64 x=x:=by
 simp [IntKind.wrap,IntKind.bits,IntKind.signed];omega
theorem ra (x:Int) (a:0<=x) (b:x<18446744073709551616):IntKind.wrap .u64 x=x:=by
 simp [IntKind.wrap,IntKind.bits,IntKind.signed];omega
theorem a8V (n:Nat):(OfNat.ofNat n:Int)=(n:Int):=rfl
theorem b1M (n:Nat) (h:Nat.ble n 9223372036854775807=true):IntKind.wrap .i64 (no_index (OfNat.ofNat n:Int))=OfNat.ofNat n:=by
 have a:=dG h
 rw [a8V];exact ai _ om om
theorem c0V (a b:Nat):(a==b)=decide (a=b):=by
 by_cases h:a=b
 ·subst h;simp
 ·rw [ae h];simpa using h
theorem c3p:List.range 0=[]:=rfl
theorem a3y (m:Nat) (vs:List V):oA true h m vs=Fe m [] ((List.range m).flatMap fun b=>b4E (h b)):=rfl
theorem a6S (m:Nat) (vs:List V):oA false h m vs=Fe m [] (vs.flatMap ny):=rfl
theorem b6t (m:Nat) (row:List V):b4E (some ⟨m,true,[row]⟩)=row.flatMap ny:=by simp [b4E]
theorem b7S (m:Nat) (r:List (List V)):b4E (some ⟨m,false,r⟩)=[]:=rfl
theorem a8J (m:Nat) (acc:List Nat):Fe m acc []=acc:=rfl
theorem a2W (m b:Nat) (acc r:List Nat):Fe m acc (b::r)=Fe m (br (Nat.ble m b) (iC acc b) acc) r:=by
 simp only [Fe,Ku]
 by_cases h:m<=b<;>simp [h,br]
theorem a8L (n:Nat):Int.toNat (no_index (OfNat.ofNat n:Int))=OfNat.ofNat n:=rfl
end
end Go.AI
