/- The machine's operations on values of Lean's own types: what writes, what makes, what calls; a function's end. -/
import Derived.Test.YtgjlndaebhaciaaAiTyp2
set_option linter.unusedVariables false
set_option linter.unusedSimpArgs false
namespace Go.AI
section
variable {C:aB} {ow:FuncId→List Nat} {ev:Opd→V} {h:ah} {n:Nat} {α:Type} {e:En α} {l l2:List α}
def snO (k:Option Blk) (b s q:Nat):Option (V×List Nat):=match k with
 |some k=>if k.op=false∧0<k.esz∧s+q=k.rows.length then some (.imm k.esz (k.rows.drop s),[b]) else none
 |none=>none
theorem GQ (b s q:Nat):ej h (.sl b s q)=snO (h b) b s q:=rfl
theorem Nt (m b q:Nat) (h0:Nat.blt 0 m=true) (hq:l.length=q):snO (some ⟨m,false,rws e l⟩) b 0 q=some (.imm m (rws e l),[b]):=by
 rw [lK,decide_eq_true_eq] at h0
 simp [snO,rws,hq,h0]
theorem Ir (k:IntKind) (a:Int):ej h (.lit (.int k a))=some (.lit (.int k a),[]):=rfl
theorem D3 (a:Bool):ej h (.lit (.bool a))=some (.lit (.bool a),[]):=rfl
theorem FQ (a:List UInt8):ej h (S a)=some (S a,[]):=rfl
theorem Hb:ej h (.lit (.slice none 0 0))=some (.lit (.slice none 0 0),[]):=rfl
theorem Ix (m:Nat) (r:List (List V)):ej h (.imm m r)=some (.imm m r,[]):=rfl
def snC:Option (V×List Nat)→Option (List V×List Nat)→Option (List V×List Nat)
 |some (a,bs),some (r,bs')=>some (a.cz::r,bs++bs')
 |_,_=>none
theorem DI:dF h []=some ([],[]):=rfl
theorem zU (v:V) (r:List V):dF h (v::r)=snC (ej h v) (dF h r):=by
 simp only [dF,snC]
 cases ej h v<;>cases dF h r<;>rfl
theorem J0 (a:V) (bs:List Nat) (r:List V) (bs':List Nat):snC (some (a,bs)) (some (r,bs'))=some (a.cz::r,bs++bs'):=rfl
theorem Nv (k:IntKind) (a:Int):(V.lit (.int k a)).cz= .lit (.int k a):=rfl
theorem Ka (a:Bool):(V.lit (.bool a)).cz= .lit (.bool a):=rfl
theorem O3 (a:List UInt8):(S a).cz=S a:=rfl
theorem NO (a:Array Value):(V.lit (.tuple a)).cz= .lit (.tuple a):=rfl
theorem Qd:(V.lit (.slice none 0 0)).cz= .imm 1 []:=rfl
theorem O5 (m:Nat):(V.imm m []).cz= .imm 1 []:=rfl
theorem Pd (b i o m:Nat):(V.ptr b i o m).cz= .ptr b i o m:=rfl
theorem PP (b s q:Nat):(V.sl b s q).cz= .sl b s q:=rfl
theorem Mq (r:List V) (o:Nat):(V.iptr r o).cz= .iptr r o:=rfl
theorem QI (f:FuncId) (cs:List V):(V.fn f cs).cz= .fn f cs:=rfl
theorem FA:V.undef.cz= .undef:=rfl
theorem LZ (cs:List V):(V.agg cs).czA= .agg (cs.map V.cz):=rfl
theorem Kk (k:IntKind) (a:Int):(V.lit (.int k a)).czA= .lit (.int k a):=rfl
theorem Gy (a:Bool):(V.lit (.bool a)).czA= .lit (.bool a):=rfl
theorem L9 (a:List UInt8):(S a).czA=S a:=rfl
theorem Jx:(V.lit (.slice none 0 0)).czA= .imm 1 []:=rfl
theorem Mh (m:Nat) (r:List (List V)):(V.imm m r).czA=(V.imm m r).cz:=rfl
theorem MI (b i o m:Nat):(V.ptr b i o m).czA= .ptr b i o m:=rfl
theorem Kz (b s q:Nat):(V.sl b s q).czA= .sl b s q:=rfl
theorem Ev (r:List V) (o:Nat):(V.iptr r o).czA= .iptr r o:=rfl
theorem Oe (f:FuncId) (cs:List V):(V.fn f cs).czA= .fn f cs:=rfl
theorem BQ:V.undef.czA= .undef:=rfl
theorem Ls (cs:List V):(V.tup cs).czR= .tup (cs.map V.czA):=rfl
theorem Je (cs:List V):(V.agg cs).czR= .agg (cs.map V.cz):=rfl
theorem MN (k:IntKind) (a:Int):(V.lit (.int k a)).czR= .lit (.int k a):=rfl
theorem H4 (a:Bool):(V.lit (.bool a)).czR= .lit (.bool a):=rfl
theorem KW (a:List UInt8):(S a).czR=S a:=rfl
theorem Ks:(V.lit (.slice none 0 0)).czR= .imm 1 []:=rfl
theorem Ld (m:Nat) (r:List (List V)):(V.imm m r).czR=(V.imm m r).cz:=rfl
theorem M5 (b i o m:Nat):(V.ptr b i o m).czR= .ptr b i o m:=rfl
theorem KD (b s q:Nat):(V.sl b s q).czR= .sl b s q:=rfl
theorem IP (r:List V) (o:Nat):(V.iptr r o).czR= .iptr r o:=rfl
theorem P5 (f:FuncId) (cs:List V):(V.fn f cs).czR= .fn f cs:=rfl
theorem Ik (m:Nat) (row:List V):Blk.cz ⟨m,true,[row]⟩=⟨m,true,[row.map V.cz]⟩:=rfl
theorem FU (m:Nat) (r:List (List V)):Blk.cz ⟨m,false,r⟩=⟨m,false,r⟩:=rfl
theorem OW (k:IntKind) (a:Int):zc (.int k a)= .lit (.int k a):=rfl
theorem Lq (a:Bool):zc (.bool a)= .lit (.bool a):=rfl
theorem Nd (a:List UInt8):zc (.string ⟨⟨a⟩⟩)=S a:=rfl
theorem PY:zc (.slice none 0 0)= .imm 1 []:=rfl
def stO (k:Option Blk) (b size i o m:Nat) (x:V) (h:ah):Option (V×Upd):=match k with
 |some k=>if k.rows.length=m then (match k.rows[i]? with
  |some row=>
   if k.op then
    (if x.cells.length=size∧o+size≤row.length∧x.cells.all V.cell then
     some (.undef,[(b,{ k with rows:=k.rows.set i (row.take o++(x.cells++row.drop (o+size))) })]) else none)
   else match dF h x.cells with
    |some (cs,bs)=>if cs.length=size∧o+size≤row.length∧ ¬b∈bs then
     some (.undef,ce bs++[(b,{ k with rows:=k.rows.set i (row.take o++(cs++row.drop (o+size))) })]) else none
    |none=>none
  |none=>none) else none
 |none=>none
def AO (size:Nat) (a x:V) (h:ah):Option (V×Upd):=match a with
 | .ptr b i o m=>stO (h b) b size i o m x h
 |_=>none
theorem K0 (size:Nat) (a x:Opd):ae C ow (.store size a x) ev h n=AO size (ev a) (ev x) h:=by
 simp only [ae,AO,stO]
 cases ev a with
 |ptr b i o m=>dsimp only;cases h b<;>rfl
 |_=>rfl
theorem Hc (size b i o m:Nat) (x:V):AO size (.ptr b i o m) x h=stO (h b) b size i o m x h:=rfl
theorem Ac (m b size o:Nat) (row:List V) (x:V):stO (some ⟨m,true,[row]⟩) b size 0 o 1 x h=
 br (Nat.beq x.cells.length size&&(Nat.ble (o+size) row.length&&x.cells.all V.cell)) (some (.undef,[(b,⟨m,true,[row.take o++(x.cells++row.drop (o+size))]⟩)])) none:=by
 rw [oF,ov]
 by_cases h1:x.cells.length=size<;>by_cases h2:o+size≤row.length<;>cases h3:x.cells.all V.cell<;>simp [stO,h1,h2,h3,br]
def stT (r:List (List V)) (m b size i o:Nat) (row:List V):Option (List V×List Nat)→Option (V×Upd)
 |some (cs,bs)=>br (Nat.beq cs.length size&&(Nat.ble (o+size) row.length&& !bs.contains b)) (some (.undef,ce bs++[(b,⟨m,false,cI r i (row.take o++(cs++row.drop (o+size)))⟩)])) none
 |none=>none
theorem yt (r:List (List V)) (m b size i o:Nat) (row cs:List V) (bs:List Nat):stT r m b size i o row (some (cs,bs))=
 br (Nat.beq cs.length size&&(Nat.ble (o+size) row.length&& !bs.contains b)) (some (.undef,ce bs++[(b,⟨m,false,cI r i (row.take o++(cs++row.drop (o+size)))⟩)])) none:=rfl
theorem O7 (m b size i o q:Nat) (x:V) (hq:l.length=q):stO (some ⟨m,false,rws e l⟩) b size i o q x h=(l[i]?).bind (fun y=>stT (rws e l) m b size i o (e.enc y) (dF h x.cells)):=by
 simp only [stO]
 have:(rws e l).length=q:=by simp [rws,hq]
 rw [if_pos this]
 have h2:(rws e l)[i]? =(l[i]?).map e.enc:=by simp [rws]
 rw [h2]
 cases hl:l[i]? with
 |none=>rfl
 |some y=>
  simp only [Option.map_some,Option.bind_some]
  cases hs:dF h x.cells with
  |none=>simp [stT]
  |some p=>
   obtain ⟨cs,bs⟩:=p
   rw [yt,oF,ov]
   by_cases h1:cs.length=size<;>by_cases h2:o+size≤(e.enc y).length<;>by_cases h3:b∈bs<;>simp [h1,h2,h3,br,cI]
def psC (i:Nat):Option (List V×List Nat)→Option (List (Nat×V)×List Nat)→Option (List (Nat×V)×List Nat)
 |some (cs,bs),some (r',bs')=>some ((i,.agg cs)::r',bs++bs')
 |_,_=>none
theorem tu:bi h ev []=some ([],[]):=rfl
theorem sn (i:Nat) (x:Opd) (r:List (Nat×Opd)):bi h ev ((i,x)::r)=psC i (dF h (ev x).cells) (bi h ev r):=by
 simp only [bi,psC]
 cases dF h (ev x).cells<;>cases bi h ev r<;>rfl
theorem G8 (i:Nat) (cs:List V) (bs:List Nat) (r:List (Nat×V)) (bs':List Nat):psC i (some (cs,bs)) (some (r,bs'))=some ((i,.agg cs)::r,bs++bs'):=rfl
def oD (esz:Nat) (rows:List (List V)):List (Nat×V)→Option (List (List V))
 |[]=>some rows
 | (i,v)::r=>br (Nat.beq v.cells.length esz&&(Nat.blt i rows.length&&v.cells.all V.cell)) (oD esz (rows.set i v.cells) r) none
theorem wA (esz:Nat): ∀(ps:List (Nat×V)) (rows:List (List V)),rh esz rows ps=oD esz rows ps
 |[],_=>rfl
 | (i,v)::r,rows=>by
   simp only [rh,oD,oF,lK]
   rw [←wA esz r]
   by_cases h1:v.cells.length=esz<;>by_cases h2:i<rows.length<;>cases h3:v.cells.all V.cell<;>simp [h1,h2,br]
def zz (u0:Upd):Option (V×Upd)→Option (V×Upd)
 |some (v,u)=>some (v,u0++u)
 |none=>none
theorem Ca (u0 u:Upd) (v:V):zz u0 (some (v,u))=some (v,u0++u):=rfl
theorem Lf (u0:Upd) (c:Bool) (x y:Option (V×Upd)):zz u0 (br c x y)=br c (zz u0 x) (zz u0 y):=by cases c<;>rfl
theorem D6 (u0:Upd):zz u0 none=none:=rfl
def bsR (esz len:Nat) (zero:List Value) (bs:List Nat) (h:ah) (n:Nat):Option (List (List V))→Option (V×Upd)
 |some rows=>br (Nat.beq zero.length esz&&(zero.all aC&&(Nat.ble (len*esz) 16777216&& !bs.contains n))) (zz (ce bs) (frO (h n) n ⟨esz,false,mkR n rows⟩ (.sl n 0 len))) none
 |none=>none
def bsS (esz len:Nat) (zero:List Value) (h:ah) (n:Nat):Option (List (Nat×V)×List Nat)→Option (V×Upd)
 |some (ps,bs)=>bsR esz len zero bs h n (oD esz (List.replicate len (zero.map zc)) ps)
 |none=>none
theorem wz (esz len:Nat) (zero:List Value) (ps:List (Nat×Opd)):ae C ow (.buildSlice esz zero len ps) ev h n=bsS esz len zero h n (bi h ev ps):=by
 simp only [ae,bsS,wA,iM]
 cases bi h ev ps with
 |none=>rfl
 |some p=>
  obtain ⟨qs,bs⟩:=p
  dsimp only
  cases oD esz (List.replicate len (zero.map zc)) qs with
  |none=>rfl
  |some rows=>
   simp only [bsR,oF,ov,mkR]
   by_cases h1:zero.length=esz<;>cases h2:zero.all aC<;>by_cases h3:len*esz≤16777216<;>by_cases h4:n∈bs<;>simp [h1,h3,h4,br]
   cases frO (h n) n ⟨esz,false,rows⟩ (.sl n 0 len)<;>rfl
theorem F0 (esz len:Nat) (zero:List Value) (ps:List (Nat×V)) (bs:List Nat):bsS esz len zero h n (some (ps,bs))=bsR esz len zero bs h n (oD esz (List.replicate len (zero.map zc)) ps):=rfl
theorem Ih (esz len:Nat) (zero:List Value) (bs:List Nat) (rows:List (List V)):bsR esz len zero bs h n (some rows)=br (Nat.beq zero.length esz&&(zero.all aC&&(Nat.ble (len*esz) 16777216&& !bs.contains n))) (zz (ce bs) (frO (h n) n ⟨esz,false,mkR n rows⟩ (.sl n 0 len))) none:=rfl
def tbS (x:V) (h:ah) (n:Nat):Option (V×Upd):=match x with
 | .lit (.string s)=>if s.size≤aK then dp h n ⟨1,false,s.data.toList.map fun b=>[.lit (.int .u8 b.toNat)]⟩ (.sl n 0 s.size) else none
 |_=>none
theorem Cz (x:Opd):ae C ow (.toBytes x) ev h n=tbS (ev x) h n:=rfl
theorem S6 (s:List UInt8):tbS (S s) h n=br (dN s.length 1) (frO (h n) n ⟨1,false,rws eU8 s⟩ (.sl n 0 s.length)) none:=by
 simp only [tbS,vR,dN,Nat.mul_one,iM]
 by_cases h1:s.length≤aK<;>simp [h1,br]
 rfl
def boS (x:V) (h:ah):Option (V×Upd):=match x with
 | .sl b s n=>match h b with
   |some k=>if k.op=false∧0<k.esz∧s+n=k.rows.length∧0<n then some (.sl b s n,[(b,k)]) else none
   |none=>none
 |_=>none
theorem AN (x:Opd):ae C ow (.bytesOwn x) ev h n=boS (ev x) h:=rfl
def boO (k:Option Blk) (b s n:Nat):Option (V×Upd):=match k with
 |some k=>if k.op=false∧0<k.esz∧s+n=k.rows.length∧0<n then some (.sl b s n,[(b,k)]) else none
 |none=>none
theorem Ku (b s q:Nat):boS (.sl b s q) h=boO (h b) b s q:=rfl
theorem P7 (b m q:Nat) (h0:Nat.blt 0 m=true) (hq:l.length=q):boO (some ⟨m,false,rws e l⟩) b 0 q=br (decide (0<q)) (some (.sl b 0 q,[(b,⟨m,false,rws e l⟩)])) none:=by
 rw [lK,decide_eq_true_eq] at h0
 by_cases h1:0<q<;>simp [boO,rws,hq,h0,h1,br]
theorem yE (l:List UInt8):ae.bytesOf (rws eU8 l)=some l:=by
 induction l with
 |nil=>rfl
 |cons b l ih=>
  simp only [rws,List.map_cons,eU8] at ih ⊢
  simp only [ae.bytesOf]
  have h1:(0:Int)≤(b.toNat:Int)∧(b.toNat:Int)<256:=⟨by omega,by have:=b.toNat_lt;omega⟩
  rw [if_pos h1,ih]
  simp
noncomputable def tsR:Option (List (List V))→Option (V×Upd)
 |some rows=>match ae.bytesOf rows with
  |some l=>some (.lit (.string ⟨l.toArray⟩),[])
  |none=>none
 |none=>none
noncomputable def tsS (x:V) (h:ah):Option (V×Upd):=br (B8 x) none (tsR (bg h 1 x))
theorem Ki (x:Opd):ae C ow (.toStr x) ev h n=tsS (ev x) h:=by
 simp only [ae,tsS,tsR]
 cases B8 (ev x)
 ·simp only [Bool.false_eq_true,if_false,aZ]
  cases bg h 1 (ev x)<;>rfl
 ·rfl
theorem Gc (l:List UInt8):tsR (some (rws eU8 l))=some (S l,[]):=by
 simp only [tsR,yE]
theorem PH (l:List UInt8):tsS (sl eU8 l) h=some (S l,[]):=by
 rw [tsS,xl,aZ,ub 1 rfl,Gc]
def roO (k:Option Blk) (m s q:Nat):Option (List (List V)):=match k with
 |some k=>if k.op=false∧0<k.esz∧k.esz=m∧s+q=k.rows.length then some (k.rows.drop s) else none
 |none=>none
theorem zd (m b s q:Nat):bg h m (.sl b s q)=roO (h b) m s q:=rfl
theorem Po (m q:Nat) (h0:Nat.blt 0 m=true) (hq:l.length=q):roO (some ⟨m,false,rws e l⟩) m 0 q=some (rws e l):=by
 rw [lK,decide_eq_true_eq] at h0
 simp [roO,rws,hq,h0]
theorem zO (s:List UInt8):bg h 1 (S s)=some (rws eU8 s):=rfl
theorem JR (b s q:Nat):tsS (.sl b s q) h=tsR (roO (h b) 1 s q):=rfl
theorem Ja:tsS (.lit (.slice none 0 0)) h=some (S [],[]):=rfl
theorem L7:tsS (.imm 1 []) h=some (S [],[]):=rfl
def Pz (esz bytes:Nat) (zero:List Value) (len cap:V) (h:ah) (n:Nat):Option (V×Upd):=match asI len,asI cap with
 |some l,some c=>if 0≤l∧l≤c∧c*bytes≤aK∧c*esz≤aK∧zero.length=esz∧zero.all aC then
  dp h n ⟨esz,false,List.replicate l.toNat (zero.map zc)⟩ (.sl n 0 l.toNat) else none
 |_,_=>none
theorem xh (esz bytes:Nat) (zero:List Value) (len cap:Opd):ae C ow (.makeSlice esz bytes zero len cap) ev h n=Pz esz bytes zero (ev len) (ev cap) h n:=rfl
theorem NR (esz bytes:Nat) (zero:List Value) (k k':IntKind) (a c:Int) (hb:Nat.ble esz bytes=true) (hz:Nat.beq zero.length esz=true) (hz2:zero.all aC=true):
 Pz esz bytes zero (.lit (.int k a)) (.lit (.int k' c)) h n=br (AZ a c bytes) (frO (h n) n ⟨esz,false,yY n a.toNat (zero.map zc)⟩ (.sl n 0 (Bj (yY n a.toNat (zero.map zc))))) none:=by
 have hz3:=Nat.eq_of_beq_eq_true hz
 have hb2:=Nat.le_of_ble_eq_true hb
 simp only [Pz,asI,AZ,hz3,hz2,iM,yY,Bj,List.length_replicate]
 by_cases h1:0≤a<;>by_cases h2:a≤c<;>by_cases h3:c*bytes≤aK<;>simp [h1,h2,h3,br]
 intro h4
 exfalso
 have:c*esz≤c*bytes:=Int.mul_le_mul_of_nonneg_left (by omega) (by omega)
 omega
def slS (esz:Nat) (x:V) (lo hi mx:Option V) (h:ah):Option (V×Upd):=match mx with
 |some _=>none
 |none=>match x with
  | .lit (.slice none 0 0)=>match aP hi 0 0 with
    |some q=>match aP lo 0 q with
     |some _=>some (.lit (.slice none 0 0),[])
     |none=>none
    |none=>none
  | .sl b s n=>match h b with
    |some k=>if k.op=false∧0<k.esz∧k.esz=esz∧s+n=k.rows.length then (match aP hi n n with
     |some q=>match aP lo 0 q with
      |some p=>if q=n then some (.sl b (s+p) (n-p),[]) else some ((V.imm esz (((k.rows.drop s).take q).drop p)).cz,[(b,eD)])
      |none=>none
     |none=>none) else none
    |none=>none
  | .imm e rows=>if e=esz∨rows=[] then (match aP hi rows.length rows.length with
   |some q=>match aP lo 0 q with
    |some p=>some ((V.imm e ((rows.take q).drop p)).cz,[])
    |none=>none
   |none=>none) else none
  |_=>none
theorem Jh (esz:Nat) (x:Opd) (lo hi:Option Opd):ae C ow (.slice esz x lo hi none) ev h n=slS esz (ev x) (lo.map ev) (hi.map ev) none h:=rfl
theorem iQ (d m:Nat):aP none d m=some d:=rfl
theorem kq (k:IntKind) (i:Int) (d m:Nat):aP (some (.lit (.int k i))) d m=if 0≤i∧i≤m then some i.toNat else none:=rfl
theorem r6 (m:Nat) (hm:e.esz=m) (lo hi:Option V):slS m (sl e l) lo hi none h=(match aP hi l.length l.length with
 |some q=>match aP lo 0 q with
  |some p=>some (sl e ((l.take q).drop p),[])
  |none=>none
 |none=>none):=by
 subst hm
 rcases cW e l with ⟨rfl,hs⟩|⟨hne,hs⟩
 ·rw [hs]
  simp only [slS,List.length_nil,or_true,if_true]
  cases aP hi 0 0 with
  |none=>rfl
  |some q=>cases aP lo 0 q<;>simp [Oc,V.cz]
 ·rw [hs]
  simp only [slS,true_or,if_true,rws,List.length_map]
  cases aP hi l.length l.length with
  |none=>rfl
  |some q=>cases aP lo 0 q<;>simp [sl,rws, ←List.map_take, ←List.map_drop]
theorem Pc (m:Nat) (hm:e.esz=m):slS m (sl e l) none none none h=some (sl e l,[]):=by
 rw [r6 m hm];simp [iQ]
theorem Pe (m:Nat) (hm:e.esz=m) (k:IntKind) (a:Int):slS m (sl e l) (some (.lit (.int k a))) none none h=(fT l a l.length).bind (fun l'=>some (sl e l',[])):=by
 rw [r6 m hm]
 simp only [iQ,kq,fT]
 by_cases h1:0≤a<;>by_cases h2:a≤(l.length:Int)<;>simp [h1,h2]
theorem Nn (m:Nat) (hm:e.esz=m) (k:IntKind) (b:Int):slS m (sl e l) none (some (.lit (.int k b))) none h=(fT l 0 b).bind (fun l'=>some (sl e l',[])):=by
 rw [r6 m hm]
 simp only [iQ,kq,fT]
 by_cases h1:0≤b<;>by_cases h2:b≤(l.length:Int)<;>simp [h1,h2]
theorem NL (m:Nat) (hm:e.esz=m) (k k':IntKind) (a b:Int):slS m (sl e l) (some (.lit (.int k a))) (some (.lit (.int k' b))) none h=(fT l a b).bind (fun l'=>some (sl e l',[])):=by
 rw [r6 m hm]
 simp only [kq,fT]
 by_cases h1:0≤b<;>by_cases h2:b≤(l.length:Int)<;>by_cases h3:0≤a<;>by_cases h4:a≤b
 all_goals (have e1:((b.toNat:Nat):Int)=b∨ ¬0≤b:=by omega)
 all_goals (rcases e1 with e1|e1)
 all_goals (first|omega| (simp [h1,h2,h3,h4,e1];try omega))
def slO (k:Option Blk) (m b s q:Nat) (a:Int):Option (V×Upd):=match k with
 |some k=>if k.op=false∧0<k.esz∧k.esz=m∧s+q=k.rows.length then (if 0≤a∧a≤q then some (.sl b (s+a.toNat) (q-a.toNat),[]) else none) else none
 |none=>none
theorem L5 (m b s q:Nat) (k:IntKind) (a:Int):slS m (.sl b s q) (some (.lit (.int k a))) none none h=slO (h b) m b s q a:=by
 simp only [slS,slO,iQ,kq]
 cases h b with
 |none=>rfl
 |some k=>
  dsimp only
  split
  ·by_cases hc:0≤a∧a≤(q:Int)
   ·rw [if_pos hc,if_pos hc];simp
   ·rw [if_neg hc,if_neg hc]
  ·rfl
theorem Ox (m b s q:Nat) (a:Int) (h0:Nat.blt 0 m=true) (hq:s+q=l.length):slO (some ⟨m,false,rws e l⟩) m b s q a=br (decide (0≤a)&&decide (a≤q)) (some (.sl b (s+a.toNat) (q-a.toNat),[])) none:=by
 rw [lK,decide_eq_true_eq] at h0
 by_cases h1:0≤a<;>by_cases h2:a≤(q:Int)<;>simp [slO,rws,hq,h0,h1,h2,br]
def ssS (x:V) (lo hi:Option V):Option (V×Upd):=match x with
 | .lit (.string s)=>match aP hi s.size s.size with
   |some b=>match aP lo 0 b with
    |some a=>some (.lit (.string (s.extract a b)),[])
    |none=>none
   |none=>none
 |_=>none
theorem AP (x:Opd) (lo hi:Option Opd):ae C ow (.sliceStr x lo hi) ev h n=ssS (ev x) (lo.map ev) (hi.map ev):=rfl
theorem AJ (s:List UInt8) (a b:Nat):(⟨⟨s⟩⟩:ByteArray).extract a b=⟨⟨(s.take b).drop a⟩⟩:=by
 apply ByteArray.ext
 rw [ByteArray.data_extract]
 apply Array.ext'
 simp [List.extract_eq_take_drop,List.drop_take]
theorem ra (s:List UInt8) (lo hi:Option V):ssS (S s) lo hi=(match aP hi s.length s.length with
 |some q=>match aP lo 0 q with
  |some p=>some (S ((s.take q).drop p),[])
  |none=>none
 |none=>none):=by
 simp only [ssS,vR,AJ]
theorem Q7 (s:List UInt8):ssS (S s) none none=some (S s,[]):=by rw [ra];simp [iQ]
theorem N3 (s:List UInt8) (k:IntKind) (a:Int):ssS (S s) (some (.lit (.int k a))) none=(fT s a s.length).bind (fun l'=>some (S l',[])):=by
 rw [ra]
 simp only [iQ,kq,fT]
 by_cases h1:0≤a<;>by_cases h2:a≤(s.length:Int)<;>simp [h1,h2]
theorem Oq (s:List UInt8) (k:IntKind) (b:Int):ssS (S s) none (some (.lit (.int k b)))=(fT s 0 b).bind (fun l'=>some (S l',[])):=by
 rw [ra]
 simp only [iQ,kq,fT]
 by_cases h1:0≤b<;>by_cases h2:b≤(s.length:Int)<;>simp [h1,h2]
theorem N9 (s:List UInt8) (k k':IntKind) (a b:Int):ssS (S s) (some (.lit (.int k a))) (some (.lit (.int k' b)))=(fT s a b).bind (fun l'=>some (S l',[])):=by
 rw [ra]
 simp only [kq,fT]
 by_cases h1:0≤b<;>by_cases h2:b≤(s.length:Int)<;>by_cases h3:0≤a<;>by_cases h4:a≤b
 all_goals (have e1:((b.toNat:Nat):Int)=b∨ ¬0≤b:=by omega)
 all_goals (rcases e1 with e1|e1)
 all_goals (first|omega| (simp [h1,h2,h3,h4,e1];try omega))
noncomputable def apS (esz bytes:Nat) (zero:List Value) (x y:V) (h:ah) (n:Nat):Option (List (List V))→Option (V×Upd)
 |none=>none
 |some new_=>if zero.length=esz∧0<esz∧new_.length*bytes≤aK∧new_.length*esz≤aK then
  (match x with
  | .sl b 0 n=>match h b with
    |some k=>if k.op=false∧0<k.esz∧k.esz=esz∧n=k.rows.length∧(n+new_.length)*bytes≤aK∧(n+new_.length)*esz≤aK∧ae.selfOk b y then
     some (.sl b 0 (n+new_.length),[(b,{ k with rows:=k.rows++new_ })]) else none
    |none=>none
  | .lit (.slice none 0 0)=>dp h n ⟨esz,false,new_⟩ (.sl n 0 new_.length)
  | .imm 0 []=>dp h n ⟨esz,false,new_⟩ (.sl n 0 new_.length)
  |_=>none) else none
theorem EP (esz bytes:Nat) (zero:List Value) (x y:Opd):ae C ow (.append esz bytes zero x y) ev h n=apS esz bytes zero (ev x) (ev y) h n (bg h esz (ev y)):=by
 simp only [ae]
 cases bg h esz (ev y) with
 |none=>rfl
 |some r=>rfl
noncomputable def oX (b:Nat) (y:V):Bool:=ae.selfOk b y
theorem J5 (b:Nat):oX b (sl e l)=true:=by
 rcases cW e l with ⟨_,h⟩|⟨_,h⟩<;>rw [h]<;>rfl
theorem CL (b b' s q:Nat):oX b (.sl b' s q)=(b !=b'):=rfl
theorem CU (b:Nat) (s:List UInt8):oX b (S s)=true:=rfl
theorem Da (b:Nat):oX b (.lit (.slice none 0 0))=true:=rfl
theorem DE (b m:Nat) (r:List (List V)):oX b (.imm m r)=true:=rfl
def apO (k:Option Blk) (esz bytes:Nat) (zero:List Value) (b q:Nat) (sb:Bool) (new_:List (List V)):Option (V×Upd):=match k with
 |some k=>if zero.length=esz∧0<esz∧new_.length*bytes≤aK∧new_.length*esz≤aK then
  (if k.op=false∧0<k.esz∧k.esz=esz∧q=k.rows.length∧(q+new_.length)*bytes≤aK∧(q+new_.length)*esz≤aK∧sb=true then
        some (.sl b 0 (q+new_.length),[(b,{ k with rows:=k.rows++new_ })]) else none) else none
 |none=>none
theorem Ma (esz bytes:Nat) (zero:List Value) (b q:Nat) (y:V) (new_:List (List V)):apS esz bytes zero (.sl b 0 q) y h n (some new_)=apO (h b) esz bytes zero b q (oX b y) new_:=by
 simp only [apS,apO,oX]
 cases h b with
 |none=>simp
 |some k=>rfl
theorem OH (m bytes:Nat) (zero:List Value) (b q:Nat) (sb:Bool) (hz:Nat.beq zero.length m=true) (h0:Nat.blt 0 m=true) (hb:Nat.ble m bytes=true) (hq:l.length=q) (hs:sb=true):
 apO (some ⟨m,false,rws e l⟩) m bytes zero b q sb (rws e l2)=br (dN (l++l2).length bytes) (some (.sl b 0 (l++l2).length,[(b,⟨m,false,rws e (l++l2)⟩)])) none:=by
 have hz3:=Nat.eq_of_beq_eq_true hz
 have hb2:=Nat.le_of_ble_eq_true hb
 rw [lK,decide_eq_true_eq] at h0
 subst hs hq
 simp only [apO,dN,rws,List.length_map,List.length_append,List.map_append]
 have e1:(l.length+l2.length)*m≤(l.length+l2.length)*bytes:=Nat.mul_le_mul_left _ hb2
 have e2:l2.length*bytes≤(l.length+l2.length)*bytes:=Nat.mul_le_mul_right _ (by omega)
 have e3:l2.length*m≤l2.length*bytes:=Nat.mul_le_mul_left _ hb2
 by_cases hf:(l.length+l2.length)*bytes≤aK
 ·rw [if_pos ⟨hz3,h0,by omega,by omega⟩,if_pos ⟨by trivial,h0,by trivial,by trivial,hf,by omega,by trivial⟩,decide_eq_true hf,bH]
 ·rw [decide_eq_false hf,aZ]
  split
  ·rw [if_neg (fun hc=>hf hc.2.2.2.2.1)]
  ·rfl
theorem Ko (m bytes:Nat) (zero:List Value) (y:V) (hz:Nat.beq zero.length m=true) (h0:Nat.blt 0 m=true) (hb:Nat.ble m bytes=true):
 apS m bytes zero (.lit (.slice none 0 0)) y h n (some (rws e l2))=br (dN l2.length bytes) (frO (h n) n ⟨m,false,rws e l2⟩ (.sl n 0 l2.length)) none:=by
 have hz3:=Nat.eq_of_beq_eq_true hz
 have hb2:=Nat.le_of_ble_eq_true hb
 rw [lK,decide_eq_true_eq] at h0
 simp only [apS,dN,iM]
 have hl:(rws e l2).length=l2.length:=by simp [rws]
 rw [hl]
 have e3:l2.length*m≤l2.length*bytes:=Nat.mul_le_mul_left _ hb2
 by_cases hf:l2.length*bytes≤aK
 ·rw [if_pos ⟨hz3,h0,hf,by omega⟩,decide_eq_true hf,bH]
 ·rw [decide_eq_false hf,aZ,if_neg (fun hc=>hf hc.2.2.1)]
def uz (l:List α) (s k:Nat) (l2:List α):List α:=l.take s++(l2.take k++l.drop (s+k))
def NY (esz bytes:Nat) (zero:List Value) (x y:V) (h:ah) (n:Nat):Option (V×Upd):=match asI y with
 |some l=>if 0≤l∧l≤1099511627776∧l*bytes≤1099511627776∧zero.all aC then nY esz bytes zero x (fun _=>true) h n (List.replicate l.toNat (zero.map zc)) else none
 |none=>none
theorem CN (esz bytes:Nat) (zero:List Value) (x y:Opd):ae C ow (.appendN esz bytes zero x y) ev h n=NY esz bytes zero (ev x) (ev y) h n:=rfl
theorem GI (m bytes:Nat) (zero:List Value) (b q:Nat) (k:IntKind) (a:Int) (hz2:zero.all aC=true):
 NY m bytes zero (.sl b 0 q) (.lit (.int k a)) h n=br (AZ a a bytes&&decide (a≤1099511627776)) (apO (h b) m bytes zero b q true (yY n a.toNat (zero.map zc))) none:=by
 simp only [NY,asI,AZ,hz2,yY,aK]
 by_cases h1:0≤a<;>by_cases h2:a*bytes≤1099511627776<;>by_cases h3:a≤1099511627776<;>simp [h1,h2,h3,br]
 simp only [nY,apO]
 cases h b with
 |none=>simp
 |some kk=>rfl
noncomputable def cpS (esz:Nat) (x y:V) (h:ah):Option (List (List V))→Option (V×Upd)
 |some rows=>match x with
  | .sl b s n=>match h b with
    |some k=>if k.op=false∧0<k.esz∧k.esz=esz∧s+n=k.rows.length∧ae.selfOk b y then
     some (.lit (.int .i64 (min rows.length n)),[(b,{ k with rows:=k.rows.take s++(rows.take (min rows.length n)++k.rows.drop (s+min rows.length n)) })]) else none
    |none=>none
  |_=>none
 |none=>none
theorem PO (esz:Nat) (x y:Opd):ae C ow (.copy esz x y) ev h n=cpS esz (ev x) (ev y) h (bg h esz (ev y)):=by
 simp only [ae,cpS]
 cases bg h esz (ev y) with
 |none=>rfl
 |some r=>cases ev x<;>rfl
def cpO (k:Option Blk) (esz b s q:Nat) (sb:Bool) (rows:List (List V)):Option (V×Upd):=match k with
 |some k=>if k.op=false∧0<k.esz∧k.esz=esz∧s+q=k.rows.length∧sb=true then
  some (.lit (.int .i64 (min rows.length q)),[(b,{ k with rows:=k.rows.take s++(rows.take (min rows.length q)++k.rows.drop (s+min rows.length q)) })]) else none
 |none=>none
theorem LG (esz b s q:Nat) (y:V) (rows:List (List V)):cpS esz (.sl b s q) y h (some rows)=cpO (h b) esz b s q (oX b y) rows:=by
 simp only [cpS,cpO,oX]
 cases h b<;>rfl
theorem Oa (m b s q:Nat) (sb:Bool) (h0:Nat.blt 0 m=true) (hs:sb=true):cpO (some ⟨m,false,rws e l⟩) m b s q sb (rws e l2)=
 br (decide (s+q=l.length)) (some (I (min (l2.length:Int) (q:Int)),[(b,⟨m,false,rws e (uz l s (min l2.length q) l2)⟩)])) none:=by
 rw [lK,decide_eq_true_eq] at h0
 subst hs
 simp only [cpO]
 by_cases hq:s+q=l.length
 ·rw [if_pos ⟨by trivial,h0,by trivial,by simp [rws,hq],by trivial⟩,decide_eq_true hq,bH]
  simp [rws,uz,List.map_take,List.map_drop]
 ·rw [decide_eq_false hq,aZ,if_neg (fun hc=>hq (by simpa [rws] using hc.2.2.2.1))]
def ncS (x:V) (h:ah):Option (V×Upd):=match x with
 | .ptr b i o n=>match h b with
   |some k=>if k.rows.length=n∧i<n then some (.ptr b i o n,[]) else none
   |none=>none
 | .iptr r o=>some (.iptr r o,[])
 | .fn f c=>some (.fn f c,[])
 |_=>none
theorem zm (x:Opd):ae C ow (.nilCheck x) ev h n=ncS (ev x) h:=by
 simp only [ae,ncS]
 cases ev x<;>rfl
def ncO (k:Option Blk) (b i o m:Nat):Option (V×Upd):=match k with
 |some k=>if k.rows.length=m∧i<m then some (.ptr b i o m,[]) else none
 |none=>none
theorem S8 (b i o m:Nat):ncS (.ptr b i o m) h=ncO (h b) b i o m:=rfl
theorem OG (b o m:Nat) (row:List V):ncO (some ⟨m,true,[row]⟩) b 0 o 1=some (.ptr b 0 o 1,[]):=rfl
theorem QD (r:List V) (o:Nat):ncS (.iptr r o) h=some (.iptr r o,[]):=rfl
theorem RB (f:FuncId) (c:List V):ncS (.fn f c) h=some (.fn f c,[]):=rfl
def mxS (x y:V):Option (V×Upd):=match x,y with
 | .lit (.int k a),.lit (.int _ b)=>some (.lit (.int k (if b>a then b else a)),[])
 |_,_=>none
theorem Qj (x y:Opd):ae C ow (.max2 x y) ev h n=mxS (ev x) (ev y):=by
 simp only [ae,mxS]
 cases ev x<;>cases ev y<;>rfl
theorem Ro (k k':IntKind) (a b:Int):mxS (.lit (.int k a)) (.lit (.int k' b))=some (.lit (.int k (mx a b)),[]):=rfl
def mnS (x y:V):Option (V×Upd):=match x,y with
 | .lit (.int k a),.lit (.int _ b)=>some (.lit (.int k (if b<a then b else a)),[])
 |_,_=>none
theorem Ns (x y:Opd):ae C ow (.min2 x y) ev h n=mnS (ev x) (ev y):=by
 simp only [ae,mnS]
 cases ev x<;>cases ev y<;>rfl
theorem RC (k k':IntKind) (a b:Int):mnS (.lit (.int k a)) (.lit (.int k' b))=some (.lit (.int k (mn a b)),[]):=rfl
noncomputable def pS (fl ro:Bool) (h:ah) (new:Nat) (ids bor:List Nat):Option (V×List Blk)→Option (V×Upd)
 |some (r,bs)=>roW ro h (j2 fl h new ids bor r bs)
 |none=>none
noncomputable def roX (k':Option Blk) (b:Nat) (k:Blk) (x:Option Upd):Option Upd:=match k' with
 |none=>x.map ((b,k):: ·)
 |some k'=>open Classical in if k'=k then x else none
def roE (v:V):Option Upd→Option (V×Upd)
 |some u=>some (v,u)
 |none=>none
theorem KP:roU h []=some []:=rfl
theorem I6 (b:Nat) (k:Blk) (r:Upd):roU h ((b,k)::r)=roX (h b) b k (roU h r):=by
 simp only [roU,roX];cases h b<;>rfl
theorem Ic (b:Nat) (k:Blk) (x:Option Upd):roX (some k) b k x=x:=by simp [roX]
theorem Ia (b:Nat) (k:Blk) (u:Upd):roX none b k (some u)=some ((b,k)::u):=rfl
theorem EE (v:V) (u:Upd):roE v (some u)=some (v,u):=rfl
theorem QO (x:Option (V×Upd)):roW false h x=x:=by cases x<;>rfl
theorem OR (c:Bool) (x y:Option (V×Upd)):roW true h (br c x y)=br c (roW true h x) (roW true h y):=by cases c<;>rfl
theorem Il:roW true h none=none:=rfl
theorem Is (v:V) (u:Upd):roW true h (some (v,u))=roE v (roU h u):=by
 simp only [roW,if_true,roE];cases roU h u<;>rfl
noncomputable def ox (C:aB) (ow:FuncId→List Nat) (h:ah) (new:Nat) (f:FuncId):Option (List V×List Blk×List Nat×List Nat)→Option (V×Upd)
 |some (args',blks,ids,bor)=>pS ((ow f).contains 2000) ((ow f).contains 3000) h new ids bor (C f (gX (ow f) args') (gM (ow f) blks))
 |none=>none
theorem u4 (f:FuncId) (args:List V):dJ C ow h n f args=ox C ow h n f (bn ow h f args):=by
 unfold dJ ox pS
 cases bn ow h f args with
 |none=>rfl
 |some p=>obtain ⟨a,b,c,d⟩:=p;dsimp only;cases C f (gX (ow f) a) (gM (ow f) b)<;>rfl
theorem Pv (f:FuncId) (args:List Opd):ae C ow (.call f args) ev h n=ox C ow h n f (bn ow h f (args.map ev)):=u4 _ _
noncomputable def Pq (C:aB) (ow:FuncId→List Nat) (h:ah) (n:Nat) (args:List V):V→Option (V×Upd)
 | .fn k caps=>ox C ow h n k (bn ow h k (args++caps))
 |_=>none
theorem Qz (f:Opd) (args:List Opd):ae C ow (.dyn f args) ev h n=Pq C ow h n (args.map ev) (ev f):=by
 simp only [ae,Pq]
 cases ev f<;>first|rfl|exact u4 _ _
theorem LX (args:List V) (k:FuncId) (caps:List V):Pq C ow h n args (.fn k caps)=ox C ow h n k (bn ow h k (args++caps)):=rfl
theorem A4 (f:FuncId) (a:List V) (b:List Blk) (c d:List Nat):ox C ow h n f (some (a,b,c,d))=pS ((ow f).contains 2000) ((ow f).contains 3000) h n c d (C f (gX (ow f) a) (gM (ow f) b)):=rfl
theorem It (f:FuncId) (c:Bool) (x y:Option (List V×List Blk×List Nat×List Nat)):ox C ow h n f (br c x y)=br c (ox C ow h n f x) (ox C ow h n f y):=by cases c<;>rfl
def Bs (args':List V) (bor:List Nat):Option (List Blk×List Nat)→Option (List V×List Blk×List Nat×List Nat)
 |some (blks,ids)=>br (bor.any (fun b=>decide (b∈ids))) none (some (args',blks,ids,bor))
 |none=>none
def yZ (h:ah):Option (List V×List Nat×List Nat)→Option (List V×List Blk×List Nat×List Nat)
 |some (args',ids0,bor)=>Bs args' bor (bB h 40 0 ids0)
 |none=>none
theorem wP (f:FuncId) (args:List V):bn ow h f args=yZ h (cu h (ow f) 0 [] args):=by
 unfold bn yZ Bs
 cases cu h (ow f) 0 [] args with
 |none=>rfl
 |some p=>
  obtain ⟨a,i,b⟩:=p
  dsimp only
  cases bB h 40 0 i with
  |none=>rfl
  |some q=>
   obtain ⟨bl,ids⟩:=q
   dsimp only
   cases hb:b.any (fun b=>decide (b∈ids))<;>simp [br]
theorem zq (a:List V) (i b:List Nat):yZ h (some (a,i,b))=Bs a b (bB h 40 0 i):=rfl
theorem Av (a:List V) (b:List Nat) (bl:List Blk) (ids:List Nat):Bs a b (some (bl,ids))=br (b.any (fun b=>decide (b∈ids))) none (some (a,bl,ids,b)):=rfl
def la2 (v':V) (bs:List Nat):Option (List V×List Nat×List Nat)→Option (List V×List Nat×List Nat)
 |some (r',ids'',bs')=>some (v'::r',ids'',bs++bs')
 |none=>none
def la1 (h:ah) (owns:List Nat) (j:Nat) (r:List V):Option (V×List Nat×List Nat)→Option (List V×List Nat×List Nat)
 |some (v',ids',bs)=>la2 v' bs (cu h owns (j+1) ids' r)
 |none=>none
theorem xi (owns:List Nat) (j:Nat) (ids:List Nat):cu h owns j ids []=some ([],ids,[]):=rfl
theorem uS (owns:List Nat) (j:Nat) (ids:List Nat) (v:V) (r:List V):cu h owns j ids (v::r)=la1 h owns j r (bp h (owns.contains j) ids v):=by
 have:decide (j∈owns)=owns.contains j:=by simp [List.contains_iff_mem,Bool.eq_iff_iff]
 simp only [cu,la1,la2,this]
 cases bp h (owns.contains j) ids v with
 |none=>rfl
 |some p=>obtain ⟨a,b,c⟩:=p;dsimp only;cases cu h owns (j+1) b r<;>rfl
theorem Es (owns:List Nat) (j:Nat) (r:List V) (v':V) (ids' bs:List Nat):la1 h owns j r (some (v',ids',bs))=la2 v' bs (cu h owns (j+1) ids' r):=rfl
theorem Hj (v':V) (bs:List Nat) (r':List V) (i b:List Nat):la2 v' bs (some (r',i,b))=some (v'::r',i,bs++b):=rfl
def lcP (k:Option Blk) (ids:List Nat) (b i o m:Nat):Option (V×List Nat×List Nat):=match k with
 |some k=>if k.rows.length=m then some (.ptr (cM b (bL ids b)) i o m,bL ids b,[]) else none
 |none=>none
def lcO (k:Option Blk) (own:Bool) (ids:List Nat) (b s q:Nat):Option (V×List Nat×List Nat):=match k with
 |some k=>if s+q=k.rows.length then
  (if own then some (.sl (cM b (bL ids b)) s q,bL ids b,[]) else if k.op=false∧0<k.esz then some (.imm k.esz (k.rows.drop s),ids,[b]) else none) else none
 |none=>none
theorem Hv (own:Bool) (ids:List Nat) (v:Value):aU h own ids (.lit v)=some (.lit v,ids,[]):=rfl
theorem P6 (own:Bool) (ids:List Nat) (m:Nat) (r:List (List V)):aU h own ids (.imm m r)=some (.imm m r,ids,[]):=rfl
theorem KR (own:Bool) (ids:List Nat) (r:List V) (o:Nat):aU h own ids (.iptr r o)=some (.iptr r o,ids,[]):=rfl
theorem QJ (own:Bool) (ids:List Nat) (f:FuncId):aU h own ids (.fn f [])=some (.fn f [],ids,[]):=rfl
theorem IC (own:Bool) (ids:List Nat):aU h own ids .undef=some (.undef,ids,[]):=rfl
theorem Qh (own:Bool) (ids:List Nat) (b i o m:Nat):aU h own ids (.ptr b i o m)=lcP (h b) ids b i o m:=rfl
theorem NM (own:Bool) (ids:List Nat) (b s q:Nat):aU h own ids (.sl b s q)=lcO (h b) own ids b s q:=rfl
theorem su (own:Bool) (ids:List Nat) (v:Value):bp h own ids (.lit v)=some (.lit v,ids,[]):=rfl
theorem O6 (own:Bool) (ids:List Nat) (m:Nat) (r:List (List V)):bp h own ids (.imm m r)=some (.imm m r,ids,[]):=rfl
theorem Mk (own:Bool) (ids:List Nat) (r:List V) (o:Nat):bp h own ids (.iptr r o)=some (.iptr r o,ids,[]):=rfl
theorem Ok (own:Bool) (ids:List Nat) (b i o m:Nat):bp h own ids (.ptr b i o m)=lcP (h b) ids b i o m:=rfl
theorem NB (own:Bool) (ids:List Nat) (b s q:Nat):bp h own ids (.sl b s q)=lcO (h b) own ids b s q:=rfl
def lcA (mk:List V→V):Option (List V×List Nat×List Nat)→Option (V×List Nat×List Nat)
 |some (cs',ids',bs)=>some (mk cs',ids',bs)
 |none=>none
theorem OJ (own:Bool) (ids:List Nat) (cs:List V):bp h own ids (.agg cs)=lcA V.agg (bm h own ids cs):=by
 simp only [bp,lcA]
 cases bm h own ids cs<;>rfl
theorem RG (own:Bool) (ids:List Nat) (f:FuncId) (cs:List V):bp h own ids (.fn f cs)=lcA (V.fn f) (bm h true ids cs):=by
 simp only [bp,lcA]
 cases bm h true ids cs<;>rfl
theorem Hp (mk:List V→V) (cs:List V) (i b:List Nat):lcA mk (some (cs,i,b))=some (mk cs,i,b):=rfl
def GD (h:ah) (own:Bool) (r:List V):Option (V×List Nat×List Nat)→Option (List V×List Nat×List Nat)
 |some (v',ids',bs)=>la2 v' bs (bm h own ids' r)
 |none=>none
theorem vG (own:Bool) (ids:List Nat):bm h own ids []=some ([],ids,[]):=rfl
theorem nO (own:Bool) (ids:List Nat) (v:V) (r:List V):bm h own ids (v::r)=GD h own r (aU h own ids v):=by
 simp only [bm,GD,la2]
 cases aU h own ids v with
 |none=>rfl
 |some p=>obtain ⟨a,b,c⟩:=p;dsimp only;cases bm h own b r<;>rfl
theorem um (own:Bool) (r:List V) (v':V) (ids' bs:List Nat):GD h own r (some (v',ids',bs))=la2 v' bs (bm h own ids' r):=rfl
theorem NZ (ids:List Nat) (b o m:Nat) (row:List V):lcP (some ⟨m,true,[row]⟩) ids b 0 o 1=some (.ptr (cM b (bL ids b)) 0 o 1,bL ids b,[]):=rfl
theorem Rr (m:Nat) (ids:List Nat) (b s q:Nat) (hq:s+q=l.length):lcO (some ⟨m,false,rws e l⟩) true ids b s q=some (.sl (cM b (bL ids b)) s q,bL ids b,[]):=by
 simp [lcO,rws,hq]
theorem MV (m:Nat) (ids:List Nat) (b q:Nat) (h0:Nat.blt 0 m=true) (hq:l.length=q):lcO (some ⟨m,false,rws e l⟩) false ids b 0 q=some (.imm m (rws e l),ids,[b]):=by
 rw [lK,decide_eq_true_eq] at h0
 simp [lcO,rws,hq,h0]
def lb2 (k:Blk):Option (List Blk×List Nat)→Option (List Blk×List Nat)
 |some (r,ids')=>some (k::r,ids')
 |none=>none
def ld2 (v':V):Option (List V×List Nat)→Option (List V×List Nat)
 |some (r',i)=>some (v'::r',i)
 |none=>none
def ld1 (h:ah) (r:List V):Option (V×List Nat×List Nat)→Option (List V×List Nat)
 |some (v',ids',_)=>ld2 v' (fg h ids' r)
 |none=>none
theorem CG (ids:List Nat):fg h ids []=some ([],ids):=rfl
theorem iR (ids:List Nat) (v:V) (r:List V):fg h ids (v::r)=ld1 h r (bp h true ids v):=by
 simp only [fg,ld1,ld2]
 cases bp h true ids v with
 |none=>rfl
 |some p=>obtain ⟨a,b,c⟩:=p;dsimp only;cases fg h b r<;>rfl
theorem lP (r:List V) (v':V) (ids' bs:List Nat):ld1 h r (some (v',ids',bs))=ld2 v' (fg h ids' r):=rfl
theorem HJ (v':V) (r':List V) (i:List Nat):ld2 v' (some (r',i))=some (v'::r',i):=rfl
def lb1 (h:ah) (fuel pos m:Nat):Option (List V×List Nat)→Option (List Blk×List Nat)
 |some (row,ids1)=>lb2 ⟨m,true,[row]⟩ (bB h fuel (pos+1) ids1)
 |none=>none
def lb0 (h:ah) (fuel pos:Nat) (ids:List Nat):Option Blk→Option (List Blk×List Nat)
 |some k=>if k.op=false then lb2 k (bB h fuel (pos+1) ids) else (match dZ h ids k.rows with
  |none=>none
  |some (rows,ids1)=>lb2 { k with rows:=rows } (bB h fuel (pos+1) ids1))
 |none=>none
def lbN (h:ah) (fuel pos:Nat) (ids:List Nat):Option Nat→Option (List Blk×List Nat)
 |none=>some ([],ids)
 |some b=>lb0 h fuel pos ids (h b)
theorem Am (fuel pos:Nat) (ids:List Nat):bB h (fuel+1) pos ids=lbN h fuel pos ids ids[pos]? :=by
 simp only [bB,lbN,lb0]
 cases ids[pos]? with
 |none=>rfl
 |some b=>
  dsimp only
  cases h b with
  |none=>rfl
  |some k=>
   dsimp only
   split
   ·cases bB h fuel (pos+1) ids<;>rfl
   ·cases dZ h ids k.rows with
    |none=>rfl
    |some p=>obtain ⟨rows,ids1⟩:=p;dsimp only;cases bB h fuel (pos+1) ids1<;>rfl
theorem Gn (fuel pos:Nat) (ids:List Nat):lbN h fuel pos ids none=some ([],ids):=rfl
theorem GJ (fuel pos:Nat) (ids:List Nat) (b:Nat):lbN h fuel pos ids (some b)=lb0 h fuel pos ids (h b):=rfl
theorem PD (fuel pos:Nat) (ids:List Nat) (m:Nat) (r:List (List V)):lb0 h fuel pos ids (some ⟨m,false,r⟩)=lb2 ⟨m,false,r⟩ (bB h fuel (pos+1) ids):=rfl
theorem P4 (fuel pos:Nat) (ids:List Nat) (m:Nat) (row:List V):lb0 h fuel pos ids (some ⟨m,true,[row]⟩)=lb1 h fuel pos m (fg h ids row):=by
 simp only [lb0,dZ,lb1]
 cases fg h ids row with
 |none=>rfl
 |some p=>obtain ⟨a,b⟩:=p;rfl
theorem Gt (fuel pos m:Nat) (row:List V) (ids1:List Nat):lb1 h fuel pos m (some (row,ids1))=lb2 ⟨m,true,[row]⟩ (bB h fuel (pos+1) ids1):=rfl
theorem Hq (k:Blk) (r:List Blk) (ids:List Nat):lb2 k (some (r,ids))=some (k::r,ids):=rfl
theorem Rl (n:Nat):bI [] [] n=[]:=rfl
theorem QM (k:Blk) (r:List Blk) (n:Nat):bI [] (k::r) n=n::bI [] r (n+1000000):=rfl
theorem Sn (i:Nat) (ids:List Nat) (k:Blk) (r:List Blk) (n:Nat):bI (i::ids) (k::r) n=bI ids r n:=rfl
def cpw (fl:Bool) (new:Nat) (ids bor:List Nat) (r:V) (bs:List Blk) (ns:List Nat):Option (V×Upd):=some (jK (ids++ns) r,dT (ids++ns) (bs.map (cC (ids++ns)))++br (bor.isEmpty||(fV r&&bs.all (dG fl))) [] (ce bor))
theorem Q8 (fl:Bool) (new:Nat) (ids bor:List Nat) (r:V) (bs:List Blk) (ns:List Nat):cpw fl new ids bor r bs ns=some (jK (ids++ns) r,dT (ids++ns) (bs.map (cC (ids++ns)))++br (bor.isEmpty||(fV r&&bs.all (dG fl))) [] (ce bor)):=rfl
theorem zW (fl ro:Bool) (new:Nat) (ids bor:List Nat) (r:V) (bs:List Blk):pS fl ro h new ids bor (some (r,bs))=
 roW ro h (br (Nat.ble ids.length bs.length&&(bI ids bs new).all (fun b=>(h b).isNone)) (cpw fl new ids bor r bs (bI ids bs new)) none):=by
 refine congrArg (roW ro h) ?_
 simp only [j2,cpw,ov]
 generalize (bI ids bs new).all (fun b=>(h b).isNone)=c3
 generalize (bor.isEmpty||(fV r&&bs.all (dG fl)))=c4
 by_cases h1:ids.length≤bs.length
 ·rw [decide_eq_true h1];cases c3<;>cases c4<;>simp [h1,br]
 ·rw [decide_eq_false h1];cases c3<;>cases c4<;>simp [h1,br]
theorem CQ (ids:List Nat) (vs:List V):jK ids (.tup vs)= .tup (vs.map (dn ids)):=rfl
theorem Df (ids:List Nat) (vs:List V):jK ids (.agg vs)= .agg (vs.map (unV ids)):=rfl
theorem Ch (ids:List Nat) (v:Value):jK ids (.lit v)= .lit v:=rfl
theorem Ds (ids:List Nat) (m:Nat) (r:List (List V)):jK ids (.imm m r)= .imm m r:=rfl
theorem xg (ids:List Nat):jK ids .undef= .undef:=rfl
theorem Ci (ids:List Nat) (b i o m:Nat):jK ids (.ptr b i o m)= .ptr (ids.getD b 0) i o m:=rfl
theorem Cq (ids:List Nat) (b s q:Nat):jK ids (.sl b s q)= .sl (ids.getD b 0) s q:=rfl
theorem BY (ids:List Nat) (vs:List V):dn ids (.agg vs)= .agg (vs.map (unV ids)):=rfl
theorem E2 (ids:List Nat) (v:Value):dn ids (.lit v)= .lit v:=rfl
theorem BJ (ids:List Nat) (m:Nat) (r:List (List V)):dn ids (.imm m r)= .imm m r:=rfl
theorem E7 (ids:List Nat) (b i o m:Nat):dn ids (.ptr b i o m)= .ptr (ids.getD b 0) i o m:=rfl
theorem DY (ids:List Nat) (b s q:Nat):dn ids (.sl b s q)= .sl (ids.getD b 0) s q:=rfl
theorem JL (ids:List Nat) (v:Value):unV ids (.lit v)= .lit v:=rfl
theorem Qm (ids:List Nat) (f:FuncId) (cs:List V):unV ids (.fn f cs)= .fn f cs:=rfl
theorem Fi (ids:List Nat) (f:FuncId) (cs:List V):dn ids (.fn f cs)= .fn f (cs.map (unV ids)):=rfl
theorem Lc (ids:List Nat) (m:Nat) (r:List (List V)):unV ids (.imm m r)= .imm m r:=rfl
theorem K7 (ids:List Nat) (b i o m:Nat):unV ids (.ptr b i o m)= .ptr (ids.getD b 0) i o m:=rfl
theorem MD (ids:List Nat) (b s q:Nat):unV ids (.sl b s q)= .sl (ids.getD b 0) s q:=rfl
theorem Hg (ids:List Nat) (m:Nat) (r:List (List V)):cC ids ⟨m,false,r⟩=⟨m,false,r⟩:=rfl
theorem Cd (ids:List Nat) (m:Nat) (row:List V):cC ids ⟨m,true,[row]⟩=⟨m,true,[row.map (dn ids)]⟩:=rfl
theorem O9 (v:Value):fV (.lit v)=true:=rfl
theorem HG:fV .undef=true:=rfl
theorem PZ (m:Nat) (r:List (List V)):fV (.imm m r)=false:=rfl
theorem P2 (vs:List V):fV (.agg vs)=vs.all eJ:=rfl
theorem Nb (vs:List V):fV (.tup vs)=vs.all lw:=rfl
theorem OC (b i o m:Nat):fV (.ptr b i o m)=true:=rfl
theorem NI (b s q:Nat):fV (.sl b s q)=true:=rfl
theorem Kh (v:Value):lw (.lit v)=true:=rfl
theorem ME (m:Nat) (r:List (List V)):lw (.imm m r)=false:=rfl
theorem Mf (vs:List V):lw (.agg vs)=vs.all eJ:=rfl
theorem Kx (b i o m:Nat):lw (.ptr b i o m)=true:=rfl
theorem KC (b s q:Nat):lw (.sl b s q)=true:=rfl
theorem ML (v:Value):eJ (.lit v)=true:=rfl
theorem PL (f:FuncId) (cs:List V):eJ (.fn f cs)=false:=rfl
theorem N8 (f:FuncId) (cs:List V):lw (.fn f cs)=false:=rfl
theorem Rk (f:FuncId) (cs:List V):fV (.fn f cs)=false:=rfl
theorem JS (m:Nat) (r:List (List V)):eJ (.imm m r)=false:=rfl
theorem JP (b i o m:Nat):eJ (.ptr b i o m)=true:=rfl
theorem Mb (b s q:Nat):eJ (.sl b s q)=true:=rfl
theorem Pt (m:Nat) (r:List (List V)):dG false ⟨m,false,r⟩=false:=rfl
theorem pe {α:Type} {e:En α} (he: ∀x,(e.enc x).all eJ=true) (m:Nat) (l:List α):dG true ⟨m,false,rws e l⟩=true:=by
 simp only [dG,Bool.true_or,Bool.true_and,rws,List.all_map,List.all_eq_true]
 exact fun x _=>he x
theorem Rb (m:Nat) (l:List Int):dG true ⟨m,false,rws eI l⟩=true:=pe (fun _=>rfl) m l
theorem RZ (m:Nat) (l:List Bool):dG true ⟨m,false,rws eB l⟩=true:=pe (fun _=>rfl) m l
theorem QA (m:Nat) (l:List UInt8):dG true ⟨m,false,rws eU8 l⟩=true:=pe (fun _=>rfl) m l
theorem JN (m:Nat) (l:List Int):dG true ⟨m,false,rws wB l⟩=true:=pe (fun _=>rfl) m l
theorem RR (m:Nat) (l:List (List UInt8)):dG true ⟨m,false,rws eS l⟩=true:=pe (fun _=>rfl) m l
theorem Qc (fl:Bool) (m:Nat) (row:List V):dG fl ⟨m,true,[row]⟩=row.all eJ:=by simp [dG]
def JM (raw:Bool) (m:Nat):Option (List V)→Option (List Blk)→Option (V×List Blk)
 |some vs',some bs=>br (Nat.ble m 1000) (some ((vK vs').czR,br raw bs (bs.map Blk.cz))) none
 |_,_=>none
def xz (keep raw:Bool) (m:Nat) (h:ah):Option (List V)→Option (V×List Blk)
 |some vs=>JM raw m (im h m (br keep (dc raw h m vs) []) vs) (hZ h m (br keep (dc raw h m vs) []) (List.range m++(br keep (dc raw h m vs) [])))
 |none=>none
theorem Be (nt:Nat) (body:aA) (res:List ph) (keep raw:Bool) (m:Nat) (st:St) (x:aH) (hx:x= .ret∨x= .normal):An ⟨nt,body,res,keep,raw⟩ m x st=xz keep raw m st.heap (dg st res):=by
 have hk: ∀vs:List V,(if keep=true then dc raw st.heap m vs else [])=br keep (dc raw st.heap m vs) []:=fun vs=>by cases keep<;>rfl
 have:An ⟨nt,body,res,keep,raw⟩ m x st=An ⟨nt,body,res,keep,raw⟩ m .ret st:=by rcases hx with rfl|rfl<;>rfl
 rw [this]
 simp only [An,cV,xz,JM,wK,hk,ov]
 cases dg st res with
 |none=>rfl
 |some vs=>
  dsimp only
  cases im st.heap m (br keep (dc raw st.heap m vs) []) vs with
  |none=>rfl
  |some vs'=>
   cases hZ st.heap m (br keep (dc raw st.heap m vs) []) (List.range m++(br keep (dc raw st.heap m vs) [])) with
   |none=>rfl
   |some bs=>by_cases h1:m≤1000<;>cases raw<;>simp [h1,br]
theorem Fp (nt:Nat) (body:aA) (res:List ph) (keep raw:Bool) (m:Nat) (st:St):An ⟨nt,body,res,keep,raw⟩ m .ret st=xz keep raw m st.heap (dg st res):=Be _ _ _ _ _ _ _ _ (.inl rfl)
theorem xw (nt:Nat) (body:aA) (res:List ph) (keep raw:Bool) (m:Nat) (st:St):An ⟨nt,body,res,keep,raw⟩ m .normal st=xz keep raw m st.heap (dg st res):=Be _ _ _ _ _ _ _ _ (.inr rfl)
theorem DD (keep raw:Bool) (m:Nat) (vs:List V):xz keep raw m h (some vs)=JM raw m (im h m (br keep (dc raw h m vs) []) vs) (hZ h m (br keep (dc raw h m vs) []) (List.range m++(br keep (dc raw h m vs) []))):=rfl
theorem Dl (raw:Bool) (m:Nat) (vs:List V) (bs:List Blk):JM raw m (some vs) (some bs)=br (Nat.ble m 1000) (some ((vK vs).czR,br raw bs (bs.map Blk.cz))) none:=rfl
def rs1:Option V→Option (List V)→Option (List V)
 |some v,some vs=>some (v::vs)
 |_,_=>none
theorem J2 (st:St):dg st []=some []:=rfl
theorem CB (st:St) (r:ph) (rs:List ph):dg st (r::rs)=rs1 (nv st r) (dg st rs):=by
 simp only [dg,rs1]
 cases nv st r<;>cases dg st rs<;>rfl
theorem Ig (v:V) (vs:List V):rs1 (some v) (some vs)=some (v::vs):=rfl
theorem Kb (st:St) (t:Nat):nv st (.tmp t)=some (st.get t):=rfl
theorem FB (st:St) (t:Nat) (g:Option Nat):nv st (.cell t g)=j5 g st.heap (st.get t):=rfl
def Tf:Option V→Option (List V)→Option (List V)
 |some v,some vs=>some (v::vs)
 |_,_=>none
theorem CI (m:Nat) (kp:List Nat):im h m kp []=some []:=rfl
theorem zV (m:Nat) (kp:List Nat) (v:V) (r:List V):im h m kp (v::r)=rs1 (lJ h m kp v) (im h m kp r):=by
 simp only [im,rs1]
 cases lJ h m kp v<;>cases im h m kp r<;>rfl
theorem BV (m:Nat) (kp:List Nat):ik h m kp []=some []:=rfl
theorem sv (m:Nat) (kp:List Nat) (v:V) (r:List V):ik h m kp (v::r)=rs1 (eG h m kp v) (ik h m kp r):=by
 simp only [ik,rs1]
 cases eG h m kp v<;>cases ik h m kp r<;>rfl
def fag:Option (List V)→Option V
 |some cs=>some (.agg cs)
 |none=>none
theorem Gu (m:Nat) (kp:List Nat) (cs:List V):lJ h m kp (.agg cs)=fag (ik h m kp cs):=by
 simp only [lJ,fag]
 cases ik h m kp cs<;>rfl
theorem Gk (cs:List V):fag (some cs)=some (.agg cs):=rfl
theorem HU (m:Nat) (kp:List Nat) (v:Value):lJ h m kp (.lit v)=some (.lit v):=rfl
theorem HO (m:Nat) (kp:List Nat) (q:Nat) (r:List (List V)):lJ h m kp (.imm q r)=some (.imm q r):=rfl
theorem zf (m:Nat) (kp:List Nat):lJ h m kp .undef=some .undef:=rfl
theorem M7 (m:Nat) (kp:List Nat) (f:FuncId):lJ h m kp (.fn f [])=some (.fn f []):=rfl
theorem HN (m:Nat) (kp:List Nat) (v:Value):eG h m kp (.lit v)=some (.lit v):=rfl
theorem EY (m:Nat) (kp:List Nat) (q:Nat) (r:List (List V)):eG h m kp (.imm q r)=some (.imm q r):=rfl
theorem Jr (m:Nat) (kp:List Nat) (f:FuncId):eG h m kp (.fn f [])=some (.fn f []):=rfl
theorem AU (m:Nat) (kp:List Nat):eG h m kp .undef=some .undef:=rfl
def KL:Option (V×List Nat)→Option V
 |some (v,_)=>some v
 |none=>none
def fcO (h:ah) (m:Nat) (kp:List Nat) (b s q:Nat):Option V:=br (Nat.blt b m) (some (.sl b s q)) (br (kp.contains b) (some (.sl (m+cM b kp) s q)) (KL (ej h (.sl b s q))))
theorem tf (m:Nat) (kp:List Nat) (b s q:Nat):eG h m kp (.sl b s q)=fcO h m kp b s q:=by
 simp only [eG,fcO,lK,KL]
 by_cases h1:b<m
 ·simp [h1,br]
 ·by_cases h2:b∈kp
  ·simp [h1,h2,br]
  ·have:kp.contains b=false:=by simpa using h2
   simp only [h1,h2,this,if_false,decide_false,aZ]
   cases ej h (.sl b s q)<;>rfl
theorem Gg (m:Nat) (kp:List Nat) (b s q:Nat):lJ h m kp (.sl b s q)=fcO h m kp b s q:=tf m kp b s q
theorem Qe (m:Nat) (kp:List Nat) (b s q:Nat):fcO h m kp b s q=br (Nat.blt b m) (some (.sl b s q)) (br (kp.contains b) (some (.sl (m+cM b kp) s q)) (KL (ej h (.sl b s q)))):=rfl
theorem D2 (v:V) (bs:List Nat):KL (some (v,bs))=some v:=rfl
def fcP (m:Nat) (kp:List Nat) (b i o q:Nat):Option V:=br (Nat.blt b m) (some (.ptr b i o q)) (br (kp.contains b) (some (.ptr (m+cM b kp) i o q)) none)
theorem tm (m:Nat) (kp:List Nat) (b i o q:Nat):eG h m kp (.ptr b i o q)=fcP m kp b i o q:=by
 simp only [eG,fcP,lK]
 by_cases h1:b<m
 ·simp [h1,br]
 ·by_cases h2:b∈kp
  ·simp [h1,h2,br]
  ·have:kp.contains b=false:=by simpa using h2
   simp [h1,h2,this,br]
theorem HM (m:Nat) (kp:List Nat) (b i o q:Nat):lJ h m kp (.ptr b i o q)=fcP m kp b i o q:=tm (h:=h) m kp b i o q
theorem PT (m:Nat) (kp:List Nat) (b i o q:Nat):fcP m kp b i o q=br (Nat.blt b m) (some (.ptr b i o q)) (br (kp.contains b) (some (.ptr (m+cM b kp) i o q)) none):=rfl
def fb2:Option Blk→Option (List Blk)→Option (List Blk)
 |some k,some r=>some (k::r)
 |_,_=>none
def fb1 (h:ah) (m:Nat) (kp r:List Nat):Option Blk→Option (List Blk)
 |some k=>fb2 (rW h m kp k) (hZ h m kp r)
 |none=>none
theorem CJ (m:Nat) (kp:List Nat):hZ h m kp []=some []:=rfl
theorem zZ (m:Nat) (kp:List Nat) (b:Nat) (r:List Nat):hZ h m kp (b::r)=fb1 h m kp r (h b):=by
 simp only [hZ,fb1,fb2]
 cases h b with
 |none=>rfl
 |some k=>dsimp only;cases rW h m kp k<;>cases hZ h m kp r<;>rfl
theorem F8 (m:Nat) (kp r:List Nat) (k:Blk):fb1 h m kp r (some k)=fb2 (rW h m kp k) (hZ h m kp r):=rfl
theorem G3 (k:Blk) (r:List Blk):fb2 (some k) (some r)=some (k::r):=rfl
theorem Jy (m:Nat) (kp:List Nat) (q:Nat) (r:List (List V)):rW h m kp ⟨q,false,r⟩=some ⟨q,false,r⟩:=rfl
def fbO (q:Nat):Option (List V)→Option Blk
 |some row=>some ⟨q,true,[row]⟩
 |none=>none
theorem CR (m:Nat) (kp:List Nat):jo h m kp []=some []:=rfl
theorem iJ (m:Nat) (kp:List Nat) (v:V) (r:List V):jo h m kp (v::r)=rs1 (nl h m kp v) (jo h m kp r):=by
 simp only [jo,rs1]
 cases nl h m kp v<;>cases jo h m kp r<;>rfl
def fnR (f:FuncId):Option (List V)→Option V
 |some cs=>some (.fn f cs)
 |none=>none
theorem J4 (f:FuncId) (cs:List V):fnR f (some cs)=some (.fn f cs):=rfl
theorem Gl (m:Nat) (kp:List Nat) (f:FuncId):nl h m kp (.fn f [])=some (.fn f []):=rfl
theorem MF (m:Nat) (kp:List Nat) (f:FuncId) (c:V) (cs:List V):nl h m kp (.fn f (c::cs))=fnR f (ik h m kp (c::cs)):=by
 simp only [nl,fnR]
 cases ik h m kp (c::cs)<;>rfl
theorem H0 (m:Nat) (kp:List Nat) (v:Value):nl h m kp (.lit v)=some (.lit v):=rfl
theorem J1 (m:Nat) (kp:List Nat) (q:Nat) (r:List (List V)):nl h m kp (.imm q r)=some (.imm q r):=rfl
theorem Az (m:Nat) (kp:List Nat):nl h m kp .undef=some .undef:=rfl
theorem Dn (m:Nat) (kp:List Nat) (r:List V) (o:Nat):nl h m kp (.iptr r o)=some (.iptr r o):=rfl
theorem GC (m:Nat) (kp:List Nat) (b s q:Nat):nl h m kp (.sl b s q)=fcO h m kp b s q:=tf m kp b s q
theorem Fl (m:Nat) (kp:List Nat) (b i o q:Nat):nl h m kp (.ptr b i o q)=fcP m kp b i o q:=tm (h:=h) m kp b i o q
theorem LO (m:Nat) (kp:List Nat) (q:Nat) (row:List V):rW h m kp ⟨q,true,[row]⟩=fbO q (jo h m kp row):=by
 simp only [rW,gz,fbO]
 cases jo h m kp row<;>rfl
theorem ET (q:Nat) (row:List V):fbO q (some row)=some ⟨q,true,[row]⟩:=rfl
theorem FX (t u:Nat) (v:V) (r:List (Nat×V)) (m:List (Nat×Blk)):St.get ⟨(u,v)::r,m⟩ t=if u=t then v else St.get ⟨r,m⟩ t:=by
 simp only [St.get,b7]
 split<;>rfl
theorem My (t:Nat) (m:List (Nat×Blk)):St.get ⟨[],m⟩ t= .undef:=rfl
theorem BS (b c:Nat) (k:Blk) (r:List (Nat×Blk)) (x:List (Nat×V)):St.heap ⟨x,(c,k)::r⟩ b=if c=b then some k else St.heap ⟨x,r⟩ b:=rfl
theorem Gq (b:Nat) (x:List (Nat×V)):St.heap ⟨x,[]⟩ b=none:=rfl
theorem EX (x:List (Nat×V)) (m:List (Nat×Blk)) (d:Nat) (v:V):St.put ⟨x,m⟩ (some d) v=⟨(d,v)::x,m⟩:=rfl
theorem GF (st:St) (v:V):st.put none v=st:=rfl
theorem Px (x:List (Nat×V)) (m:List (Nat×Blk)) (u:Upd):St.upd ⟨x,m⟩ u=⟨x,yz m u⟩:=rfl
theorem Mv (st:St):st.upd []=st:=rfl
theorem Eu (m:List (Nat×Blk)):yz m []=m:=rfl
theorem Eg (m:List (Nat×Blk)) (b:Nat) (k:Blk) (r:Upd):yz m ((b,k)::r)=yz (cg b k m) r:=rfl
theorem Hd {β:Type} (k:Nat) (v:β):cg k v []=[(k,v)]:=rfl
theorem E1 {β:Type} (k j:Nat) (v u:β) (r:List (Nat×β)):cg k v ((j,u)::r)=if j=k then (j,v)::r else (j,u)::cg k v r:=rfl
theorem Sw (st:St) (t:Nat):st.ev (.t t)=st.get t:=rfl
theorem Sz (st:St) (v:Value):st.ev (.c v)= .lit v:=rfl
theorem SE (st:St) (f:FuncId):st.ev (.f f)= .fn f []:=rfl
theorem LD (live:List Nat) (x:List (Nat×V)) (m:List (Nat×Blk)):trim live ⟨x,m⟩=⟨live.map fun t=>(t,St.get ⟨x,m⟩ t),m⟩:=rfl
theorem zJ {β:Type} (n:Nat):eY n ([]:List β)=[]:=rfl
theorem wY {β:Type} (n:Nat) (x:β) (r:List β):eY n (x::r)=(n,x)::eY (n+1) r:=rfl
theorem start_eq (a:List V) (b:List Blk):start a b=⟨eY 0 a,eY 0 b⟩:=rfl
theorem xS:ca ev []=[]:=rfl
theorem vP (a b:Nat) (x:Opd) (r:List (Nat×Nat×Opd)):ca ev ((a,b,x)::r)=(a,b,ev x)::ca ev r:=rfl
theorem Ed (cs:List V):pO cs []=some cs:=rfl
theorem Aa (cs:List V) (off size:Nat) (v:V) (r:List (Nat×Nat×V)):pO cs ((off,size,v)::r)=br (Nat.beq v.cells.length size&&Nat.ble (off+size) cs.length&&v.cells.all V.cell) (pO (cs.take off++(v.cells++cs.drop (off+size))) r) none:=rfl
theorem BP (m:Nat) (r:List (List V)):oD m r []=some r:=rfl
theorem zG (m:Nat) (rows:List (List V)) (i:Nat) (v:V) (r:List (Nat×V)):oD m rows ((i,v)::r)=br (Nat.beq v.cells.length m&&(Nat.blt i rows.length&&v.cells.all V.cell)) (oD m (rows.set i v.cells) r) none:=rfl
theorem CY (cs:List V):(V.agg cs).cells=cs:=rfl
theorem ut (v:Value):(V.lit v).cells=[.lit v]:=rfl
theorem DR (m:Nat) (r:List (List V)):(V.imm m r).cells=[.imm m r]:=rfl
theorem Cl (b s q:Nat):(V.sl b s q).cells=[.sl b s q]:=rfl
theorem E4 (b i o m:Nat):(V.ptr b i o m).cells=[.ptr b i o m]:=rfl
theorem Ai (r:List V) (o:Nat):(V.iptr r o).cells=[.iptr r o]:=rfl
theorem Hz (f:FuncId) (cs:List V):(V.fn f cs).cells=[.fn f cs]:=rfl
theorem yp (k:IntKind) (a:Int):(V.lit (.int k a)).cell=true:=rfl
theorem Cx (a:Bool):(V.lit (.bool a)).cell=true:=rfl
theorem IA (a:ByteArray):(V.lit (.string a)).cell=true:=rfl
theorem Ht (a:Option Addr) (n m:Nat):(V.lit (.slice a n m)).cell=true:=rfl
theorem EO (m:Nat) (r:List (List V)):(V.imm m r).cell=true:=rfl
theorem FY (b s q:Nat):(V.sl b s q).cell=true:=rfl
theorem Hh (b i o m:Nat):(V.ptr b i o m).cell=true:=rfl
theorem DL (r:List V) (o:Nat):(V.iptr r o).cell=true:=rfl
theorem L8 (f:FuncId) (cs:List V):(V.fn f cs).cell=true:=rfl
theorem KA (k:IntKind) (a:Int):aC (.int k a)=true:=rfl
theorem Hl (a:Bool):aC (.bool a)=true:=rfl
theorem Lm (a:ByteArray):aC (.string a)=true:=rfl
theorem JE (a:Option Addr) (n m:Nat):aC (.slice a n m)=true:=rfl
theorem Jb (a:Option Addr):aC (.pointer a)=true:=rfl
theorem D4:ce []=[]:=rfl
theorem Aj (b:Nat) (r:List Nat):ce (b::r)=(b,eD)::ce r:=rfl
theorem KX (ids:List Nat):dT ids []=[]:=by cases ids<;>rfl
theorem Gi (i:Nat) (ids:List Nat) (k:Blk) (r:List Blk):dT (i::ids) (k::r)=(i,k)::dT ids r:=rfl
theorem FC (b x:Nat) (r:List Nat):cM b (x::r)=if x=b then 0 else cM b r+1:=rfl
theorem Af (b:Nat):bL [] b=[b]:=rfl
theorem D1 (ids:List Nat) (b:Nat):bL ids b=br (ids.contains b) ids (ids++[b]):=by
 unfold bL
 by_cases h:b∈ids<;>simp [h,br]
theorem Pp:List.range 1=[0]:=rfl
theorem Qs:List.range 2=[0,1]:=rfl
theorem PN:List.range 3=[0,1,2]:=rfl
theorem Pa:List.range 4=[0,1,2,3]:=rfl
theorem IG (v:V):vK [v]=v:=rfl
theorem HV:vK []= .tup []:=rfl
theorem IX (a b:V) (r:List V):vK (a::b::r)= .tup (a::b::r):=rfl
theorem zl (o:List Nat) (a:List V):gX o a=br (o.contains 1000) a (a.map V.czA):=by
 unfold gX;cases o.contains 1000<;>rfl
theorem AL (o:List Nat) (a:List Blk):gM o a=br (o.contains 1000) a (a.map Blk.cz):=by
 unfold gM;cases o.contains 1000<;>rfl
theorem CH (a:Nat) (r:List Nat):(a::r).getD 0 0=a:=rfl
theorem Em (a n:Nat) (r:List Nat):(a::r).getD (n+1) 0=r.getD n 0:=rfl
def zI (st:St) (bs:List Nat):St:={ e:=sh (fzA st.heap bs) st.e,m:=fzM st.heap bs st.m }
theorem HB (st:St) (bs:List Nat):aL st (.close bs)=br (bs.all (fun b=>Nat.ble 1000 b)) (some (zI st bs)) none:=by
 simp only [aL,zI,ov]
 cases bs.all (fun b=>decide (1000≤b))<;>rfl
theorem Dx (x:List (Nat×V)) (m:List (Nat×Blk)) (bs:List Nat):zI ⟨x,m⟩ bs=⟨sh (fzA (St.heap ⟨x,m⟩) bs) x,fzM (St.heap ⟨x,m⟩) bs m⟩:=rfl
theorem Iz (g:V→V):sh g []=[]:=rfl
theorem BU (g:V→V) (t:Nat) (v:V) (r:List (Nat×V)):sh g ((t,v)::r)=(t,g v)::sh g r:=rfl
variable {bs:List Nat}
theorem P1 (v:Value):fzA h bs (.lit v)= .lit v:=rfl
theorem Qn (m:Nat) (r:List (List V)):fzA h bs (.imm m r)= .imm m r:=rfl
theorem JX (r:List V) (o:Nat):fzA h bs (.iptr r o)= .iptr r o:=rfl
theorem GO:fzA h bs .undef= .undef:=rfl
theorem Ob (vs:List V):fzA h bs (.tup vs)= .undef:=rfl
def fzO:Option (V×List Nat)→V
 |some (v,_)=>v.cz
 |none=> .undef
theorem H5 (b s q:Nat):fzA h bs (.sl b s q)=br (bs.contains b) (fzO (ej h (.sl b s q))) (.sl b s q):=by
 simp only [fzA,fzC,fzO]
 by_cases hb:b∈bs
 ·simp [hb,br];cases ej h (.sl b s q)<;>rfl
 ·simp [hb,br]
theorem Ex (b i o m:Nat):fzA h bs (.ptr b i o m)=br (bs.contains b) .undef (.ptr b i o m):=by
 simp only [fzA,fzC]
 by_cases hb:b∈bs<;>simp [hb,br]
theorem FW (v:V) (b:List Nat):fzO (some (v,b))=v.cz:=rfl
theorem OY (cs:List V):fzA h bs (.agg cs)=br ((cs.map (fzC h bs)).all V.cell) (.agg (cs.map (fzC h bs))) .undef:=by
 simp only [fzA]
 cases (cs.map (fzC h bs)).all V.cell<;>rfl
theorem MU (f:FuncId) (cs:List V):fzA h bs (.fn f cs)=br (cs.all okC&& !(cs.flatMap fy).any (fun b=>bs.contains b)) (.fn f cs) .undef:=by
 simp only [fzA,fzC]
 have:(fun b=>decide (b∈bs))=fun b=>bs.contains b:=by funext b;simp [Bool.eq_iff_iff]
 rw [this]
 cases (cs.all okC&& !(cs.flatMap fy).any (fun b=>bs.contains b))<;>rfl
theorem JF (v:Value):fzC h bs (.lit v)= .lit v:=rfl
theorem Mo (m:Nat) (r:List (List V)):fzC h bs (.imm m r)= .imm m r:=rfl
theorem PE (f:FuncId) (cs:List V):fzC h bs (.fn f cs)=br (cs.all okC&& !(cs.flatMap fy).any (fun b=>bs.contains b)) (.fn f cs) .undef:=MU (h:=h) f cs
theorem L3 (b i o m:Nat):okC (.ptr b i o m)=true:=rfl
theorem JO (b s q:Nat):okC (.sl b s q)=true:=rfl
theorem LY (v:Value):okC (.lit v)=true:=rfl
theorem M1 (m:Nat) (r:List (List V)):okC (.imm m r)=true:=rfl
theorem NE (f:FuncId):okC (.fn f [])=true:=rfl
theorem EV (r:List V) (o:Nat):fzC h bs (.iptr r o)= .iptr r o:=rfl
theorem Kr (b s q:Nat):fzC h bs (.sl b s q)=br (bs.contains b) (fzO (ej h (.sl b s q))) (.sl b s q):=H5 b s q
theorem Lb (b i o m:Nat):fzC h bs (.ptr b i o m)=br (bs.contains b) .undef (.ptr b i o m):=Ex (h:=h) b i o m
theorem Lj:fzM h bs []=[]:=rfl
def fzK (h:ah) (bs:List Nat) (k:Blk):Blk:=if k.op then (if (k.rows.map (·.map (fzC h bs))).all (·.all V.cell) then { k with rows:=k.rows.map (·.map (fzC h bs)) } else eD) else k
theorem IW (b:Nat) (k:Blk) (r:List (Nat×Blk)):fzM h bs ((b,k)::r)=br (bs.contains b) (fzM h bs r) ((b,fzK h bs k)::fzM h bs r):=by
 simp only [fzM,fzK]
 by_cases hb:b∈bs<;>simp [hb,br]
theorem OU (m:Nat) (r:List (List V)):fzK h bs ⟨m,false,r⟩=⟨m,false,r⟩:=rfl
theorem Oh (m:Nat) (row:List V):fzK h bs ⟨m,true,[row]⟩=br ((row.map (fzC h bs)).all V.cell) ⟨m,true,[row.map (fzC h bs)]⟩ eD:=by
 simp only [fzK,List.map_cons,List.map_nil,List.all_cons,List.all_nil,Bool.and_true,if_true]
 cases (row.map (fzC h bs)).all V.cell<;>rfl
section
variable {R:Type} {T:Tab} {ow:be} {k:aH→St→Option R} {d:Option Nat} {n:Nat} {ss:List aD} {live:List Nat} {K:List Fr} {st:St} {base i:Nat} {deps:List (List Nat)} {rs:List Rec} {fp:List Nat} {r:R}
theorem II {fl ro:Bool} {h:ah} {new:Nat} {ids bor:List Nat} {x:Option (V×List Blk)} {p:V×List Blk} (hx:x=some p) (hr:aft T ow k d n ss live K st (pS fl ro h new ids bor (some p))=some r):aft T ow k d n ss live K st (pS fl ro h new ids bor x)=some r:=by
 rw [hx];exact hr
theorem DH {fl ro:Bool} {h:ah} {new:Nat} {ids bor:List Nat} {x:Option (V×List Blk)} {p:V×List Blk} (hx:x=some p) (hr:qO T ow k d base i ss deps live rs K st fp (pS fl ro h new ids bor (some p))=some r):qO T ow k d base i ss deps live rs K st fp (pS fl ro h new ids bor x)=some r:=by
 rw [hx];exact hr
theorem RL (b:Int):nn b=decide (0≤b):=rfl
theorem Ry (b:Int):nz b=decide (b≠0):=rfl
theorem Pi (i:Int) (n:Nat):inb i n=(decide (0≤i)&&decide (i.toNat<n)):=rfl
end
end
section
variable {ow:be} {ev:Opd→V} {h:ah} {α:Type} {e:En α} {l:List α}
theorem Rf (x:Opd):bT ow (.mv x) ev h=[]:=rfl
theorem QG (x:Opd):(AOp.mv x).opds=[x]:=rfl
theorem Jn (c a b:Opd):bT ow (.pick c a b) ev h=((AOp.pick c a b).opds.map ev).flatMap bK:=rfl
theorem Km (c a b:Opd):(AOp.pick c a b).opds=[c,a,b]:=rfl
theorem EQ (z:List Value):bT ow (.alloc z) ev h=((AOp.alloc z).opds.map ev).flatMap bK:=rfl
theorem IU (z:List Value):(AOp.alloc z).opds=[]:=rfl
theorem P9 (m:Nat) (x:Opd):bT ow (.box m x) ev h=((AOp.box m x).opds.map ev).flatMap bK:=rfl
theorem Ps (m:Nat) (x:Opd):(AOp.box m x).opds=[x]:=rfl
theorem ya (z:List Value) (ps:List (Nat×Nat×Opd)):bT ow (.build z ps) ev h=((AOp.build z ps).opds.map ev).flatMap bK:=rfl
theorem yK (z:List Value) (ps:List (Nat×Nat×Opd)):(AOp.build z ps).opds=ps.map (·.2.2):=rfl
theorem tq (m:Nat) (z:List Value) (l:Nat) (ps:List (Nat×Opd)):bT ow (.buildSlice m z l ps) ev h=((AOp.buildSlice m z l ps).opds.map ev).flatMap bK:=rfl
theorem tX (m:Nat) (z:List Value) (l:Nat) (ps:List (Nat×Opd)):(AOp.buildSlice m z l ps).opds=ps.map (·.2):=rfl
theorem Mg (g:Option Nat) (x:Opd):bT ow (.load g x) ev h=((AOp.load g x).opds.map ev).flatMap bK:=rfl
theorem Mj (g:Option Nat) (x:Opd):(AOp.load g x).opds=[x]:=rfl
theorem Fb (m:Nat) (x y:Opd):bT ow (.store m x y) ev h=((AOp.store m x y).opds.map ev).flatMap bK:=rfl
theorem Fx (m:Nat) (x y:Opd):(AOp.store m x y).opds=[x,y]:=rfl
theorem xR (x:Opd):bT ow (.nilCheck x) ev h=((AOp.nilCheck x).opds.map ev).flatMap bK:=rfl
theorem xy (x:Opd):(AOp.nilCheck x).opds=[x]:=rfl
theorem Pb (op:BinOp) (x y:Opd):bT ow (.bin op x y) ev h=((AOp.bin op x y).opds.map ev).flatMap bK:=rfl
theorem O4 (op:BinOp) (x y:Opd):(AOp.bin op x y).opds=[x,y]:=rfl
theorem IN (b:Bool) (ks:List Bool) (x y:Opd):bT ow (.eqAgg b ks x y) ev h=((AOp.eqAgg b ks x y).opds.map ev).flatMap bK:=rfl
theorem F5 (b:Bool) (ks:List Bool) (x y:Opd):(AOp.eqAgg b ks x y).opds=[x,y]:=rfl
theorem OD (b:Bool) (x y:Opd):bT ow (.beq b x y) ev h=((AOp.beq b x y).opds.map ev).flatMap bK:=rfl
theorem NQ (b:Bool) (x y:Opd):(AOp.beq b x y).opds=[x,y]:=rfl
theorem QN (op:UnOp) (x:Opd):bT ow (.un op x) ev h=((AOp.un op x).opds.map ev).flatMap bK:=rfl
theorem RW (op:UnOp) (x:Opd):(AOp.un op x).opds=[x]:=rfl
theorem Gh (k:IntKind) (x:Opd):bT ow (.toInt k x) ev h=((AOp.toInt k x).opds.map ev).flatMap bK:=rfl
theorem HD (k:IntKind) (x:Opd):(AOp.toInt k x).opds=[x]:=rfl
theorem Li (x:Opd):bT ow (.same x) ev h=((AOp.same x).opds.map ev).flatMap bK:=rfl
theorem L0 (x:Opd):(AOp.same x).opds=[x]:=rfl
theorem Al (x:Opd):bT ow (.toBytes x) ev h=((AOp.toBytes x).opds.map ev).flatMap bK:=rfl
theorem zp (x:Opd):(AOp.toBytes x).opds=[x]:=rfl
theorem Gb (x:Opd):bT ow (.toStr x) ev h=((AOp.toStr x).opds.map ev).flatMap bK:=rfl
theorem Fo (x:Opd):(AOp.toStr x).opds=[x]:=rfl
theorem yd (f:FuncId) (cs:List Opd):bT ow (.makeFunc f cs) ev h=[]:=rfl
theorem xj (f:FuncId) (cs:List Opd):(AOp.makeFunc f cs).opds=cs:=rfl
theorem vx (m b:Nat) (z:List Value) (x y:Opd):bT ow (.makeSlice m b z x y) ev h=((AOp.makeSlice m b z x y).opds.map ev).flatMap bK:=rfl
theorem wo (m b:Nat) (z:List Value) (x y:Opd):(AOp.makeSlice m b z x y).opds=[x,y]:=rfl
theorem xQ (x:Opd) (lo hi:Option Opd):bT ow (.sliceStr x lo hi) ev h=((AOp.sliceStr x lo hi).opds.map ev).flatMap bK:=rfl
theorem yv (x:Opd) (lo hi:Option Opd):(AOp.sliceStr x lo hi).opds=x::(p8 lo++p8 hi):=rfl
theorem Gp (m:Nat) (x:Opd) (lo hi mx:Option Opd):bT ow (.slice m x lo hi mx) ev h=((AOp.slice m x lo hi mx).opds.map ev).flatMap bK:=rfl
theorem Ga (m:Nat) (x:Opd) (lo hi mx:Option Opd):(AOp.slice m x lo hi mx).opds=x::(p8 lo++(p8 hi++p8 mx)):=rfl
theorem Qi (m:Nat) (x:Opd):bT ow (.off m x) ev h=[]:=rfl
theorem Oi (m:Nat) (x:Opd):(AOp.off m x).opds=[x]:=rfl
theorem HR (m:Nat) (g:Option Nat) (x:Opd):bT ow (.field m g x) ev h=((AOp.field m g x).opds.map ev).flatMap bK:=rfl
theorem H3 (m:Nat) (g:Option Nat) (x:Opd):(AOp.field m g x).opds=[x]:=rfl
theorem O8 (m:Nat) (x y:Opd):bT ow (.idx m x y) ev h=((AOp.idx m x y).opds.map ev).flatMap bK:=rfl
theorem Pw (m:Nat) (x y:Opd):(AOp.idx m x y).opds=[x,y]:=rfl
theorem BM (m q:Nat) (x y:Opd):bT ow (.idxArr m q x y) ev h=((AOp.idxArr m q x y).opds.map ev).flatMap bK:=rfl
theorem CD (m q:Nat) (x y:Opd):(AOp.idxArr m q x y).opds=[x,y]:=rfl
theorem EW (x y:Opd):bT ow (.ixStr x y) ev h=((AOp.ixStr x y).opds.map ev).flatMap bK:=rfl
theorem Iy (x y:Opd):(AOp.ixStr x y).opds=[x,y]:=rfl
theorem IJ (m q:Nat) (g:Option Nat) (x y:Opd):bT ow (.ixAgg m q g x y) ev h=((AOp.ixAgg m q g x y).opds.map ev).flatMap bK:=rfl
theorem FG (m q:Nat) (g:Option Nat) (x y:Opd):(AOp.ixAgg m q g x y).opds=[x,y]:=rfl
theorem OZ (x:Opd) (i:Nat):bT ow (.ext x i) ev h=[]:=rfl
theorem N7 (x:Opd) (i:Nat):(AOp.ext x i).opds=[x]:=rfl
theorem Py (b:Bool) (x:Opd):bT ow (.len b x) ev h=[]:=rfl
theorem Pk (b:Bool) (x:Opd):(AOp.len b x).opds=[x]:=rfl
theorem E3 (m:Nat) (x:Opd):bT ow (.lenArr m x) ev h=((AOp.lenArr m x).opds.map ev).flatMap bK:=rfl
theorem D0 (m:Nat) (x:Opd):(AOp.lenArr m x).opds=[x]:=rfl
theorem zB (m b:Nat) (z:List Value) (x y:Opd):bT ow (.appendN m b z x y) ev h=((AOp.appendN m b z x y).opds.map ev).flatMap bK:=rfl
theorem Ak (m b:Nat) (z:List Value) (x y:Opd):(AOp.appendN m b z x y).opds=[x,y]:=rfl
theorem If (b:Bool) (x:Opd):bT ow (.isNil b x) ev h=((AOp.isNil b x).opds.map ev).flatMap bK:=rfl
theorem ER (b:Bool) (x:Opd):(AOp.isNil b x).opds=[x]:=rfl
theorem Cc (m b:Nat) (z:List Value) (x y:Opd):bT ow (.append m b z x y) ev h=((AOp.append m b z x y).opds.map ev).flatMap bK:=rfl
theorem Dv (m b:Nat) (z:List Value) (x y:Opd):(AOp.append m b z x y).opds=[x,y]:=rfl
theorem JC (m:Nat) (x y:Opd):bT ow (.copy m x y) ev h=((AOp.copy m x y).opds.map ev).flatMap bK:=rfl
theorem MH (m:Nat) (x y:Opd):(AOp.copy m x y).opds=[x,y]:=rfl
theorem L4 (x y:Opd):bT ow (.max2 x y) ev h=((AOp.max2 x y).opds.map ev).flatMap bK:=rfl
theorem MM (x y:Opd):(AOp.max2 x y).opds=[x,y]:=rfl
theorem Ji (x y:Opd):bT ow (.min2 x y) ev h=((AOp.min2 x y).opds.map ev).flatMap bK:=rfl
theorem JZ (x y:Opd):(AOp.min2 x y).opds=[x,y]:=rfl
theorem yG (x:Opd):bT ow (.bytesOwn x) ev h=((AOp.bytesOwn x).opds.map ev).flatMap bK:=rfl
theorem xG (x:Opd):(AOp.bytesOwn x).opds=[x]:=rfl
theorem Iw (m:Nat) (x:Opd):bT ow (.arrOf m x) ev h=((AOp.arrOf m x).opds.map ev).flatMap bK:=rfl
theorem Hw (m:Nat) (x:Opd):(AOp.arrOf m x).opds=[x]:=rfl
theorem OB (x:Opd):p8 (some x)=[x]:=rfl
theorem PV:p8 none=[]:=rfl
def fpC:Option (List V×List Blk×List Nat×List Nat)→List Nat
 |some (_,_,ids,bor)=>ids++bor
 |none=>[]
theorem HI (a:List V) (b:List Blk) (ids bor:List Nat):fpC (some (a,b,ids,bor))=ids++bor:=rfl
theorem Jf (f:FuncId) (args:List Opd):bT ow (.call f args) ev h=fpC (bn ow h f (args.map ev)):=by
 show pv ow h f (args.map ev)=_
 unfold pv fpC
 cases bn ow h f (args.map ev)<;>rfl
def fpD (ow:be) (h:ah) (args:List V):V→List Nat
 | .fn k caps=>fpC (bn ow h k (args++caps))
 |_=>[]
theorem OL (f:Opd) (args:List Opd):bT ow (.dyn f args) ev h=fpD ow h (args.map ev) (ev f):=by
 show (match ev f with
  | .fn k caps=>pv ow h k (args.map ev++caps)
  |_=>[])=_
 cases ev f<;>first|rfl| (simp only [fpD,pv,fpC];cases bn ow h _ _<;>rfl)
theorem PI (args:List V) (k:FuncId) (caps:List V):fpD ow h args (.fn k caps)=fpC (bn ow h k (args++caps)):=rfl
theorem MG (cs:List V):bK (.agg cs)=cs.flatMap fy:=rfl
theorem Nz (f:FuncId) (cs:List V):bK (.fn f cs)=cs.flatMap fy:=rfl
theorem Ke (cs:List V):bK (.tup cs)=cs.flatMap fun| .agg cs=>cs.flatMap fy|v=>fy v:=rfl
theorem Mp (v:Value):bK (.lit v)=[]:=rfl
theorem LJ (m:Nat) (r:List (List V)):bK (.imm m r)=[]:=rfl
theorem EC (r:List V) (o:Nat):bK (.iptr r o)=[]:=rfl
theorem Lp (b i o m:Nat):bK (.ptr b i o m)=[b]:=rfl
theorem M8 (b s q:Nat):bK (.sl b s q)=[b]:=rfl
theorem Ej:bK .undef=[]:=rfl
theorem LK (v:Value):fy (.lit v)=[]:=rfl
theorem M9 (m:Nat) (r:List (List V)):fy (.imm m r)=[]:=rfl
theorem Gr (r:List V) (o:Nat):fy (.iptr r o)=[]:=rfl
theorem Jp (b i o m:Nat):fy (.ptr b i o m)=[b]:=rfl
theorem L2 (b s q:Nat):fy (.sl b s q)=[b]:=rfl
theorem Qb (f:FuncId) (cs:List V):fy (.fn f cs)=[]:=rfl
theorem C6:fy .undef=[]:=rfl
theorem yL (fp:List Nat) (b:Nat):fJ h fp b=br (fp.contains b) (h b) none:=by
 unfold fJ
 by_cases hb:b∈fp<;>simp [hb,br]
theorem Mw (rs:List Rec) (i:Nat) (fp wr:List Nat):Ea rs i fp wr=br (fp.isEmpty&&wr.isEmpty) rs (rs++[⟨i,fp,wr⟩]):=by
 have h:Rec.loud ⟨i,fp,wr⟩= !(fp.isEmpty&&wr.isEmpty):=rfl
 unfold Ea
 cases h1:Rec.loud ⟨i,fp,wr⟩ with
 |true=>
  rw [h1] at h
  have h2:(fp.isEmpty&&wr.isEmpty)=false:=by
   cases hx:fp.isEmpty&&wr.isEmpty with
   |false=>rfl
   |true=>rw [hx] at h;cases h
  rw [h2,aZ,List.filter_cons_of_pos h1];rfl
 |false=>
  rw [h1] at h
  have h2:(fp.isEmpty&&wr.isEmpty)=true:=by
   cases hx:fp.isEmpty&&wr.isEmpty with
   |true=>rfl
   |false=>rw [hx] at h;cases h
  rw [h2,bH,List.filter_cons_of_neg (by rw [h1];decide)];simp
theorem CK (deps:List (List Nat)):eR deps []=true:=rfl
theorem zy (deps:List (List Nat)) (p:Rec) (r:List Rec):eR deps (p::r)=(ml deps p r&&eR deps r):=rfl
theorem Md (deps:List (List Nat)) (p:Rec):ml deps p []=true:=rfl
theorem Hy (deps:List (List Nat)) (i j:Nat) (f g w u:List Nat) (r:List Rec):ml deps ⟨i,f,w⟩ (⟨j,g,u⟩::r)=((w.isEmpty&&u.isEmpty||(deps.getD j []).contains i|| !(w.any (fun b=>decide (b∈g)||decide (b∈u))||u.any (fun b=>decide (b∈f))))&&ml deps ⟨i,f,w⟩ r):=rfl
theorem AB {β:Type} (a d:β) (r:List β):(a::r).getD 0 d=a:=rfl
theorem Aq {β:Type} (a d:β) (n:Nat) (r:List β):(a::r).getD (n+1) d=r.getD n d:=rfl
theorem Jl (m:Nat) (cs:List V) (n:Nat):Nr m cs h n=br (Nat.beq cs.length m&&cs.all V.cell) (frO (h n) n ⟨m,true,[cs]⟩ (.ptr n 0 0 1)) none:=rfl
theorem aj (x:Int) (h1: -9223372036854775808≤x) (h2:x<9223372036854775808):IntKind.wrap .i64 x=x:=by
 simp [IntKind.wrap,IntKind.bits,IntKind.signed];omega
theorem FF (x:Int) (h1:0≤x) (h2:x<18446744073709551616):IntKind.wrap .u64 x=x:=by
 simp [IntKind.wrap,IntKind.bits,IntKind.signed];omega
theorem Lx (x:Int) (h1:0≤x) (h2:x<256):IntKind.wrap .u8 x=x:=by
 simp [IntKind.wrap,IntKind.bits,IntKind.signed];omega
theorem pr (n:Nat):(OfNat.ofNat n:Int)=(n:Int):=rfl
theorem IY (n:Nat) (h:Nat.ble n 9223372036854775807=true):IntKind.wrap .i64 (no_index (OfNat.ofNat n:Int))=OfNat.ofNat n:=by
 have h1:=Nat.le_of_ble_eq_true h
 rw [pr];exact aj _ (by omega) (by omega)
theorem Du (n:Nat) (h:Nat.ble n 18446744073709551615=true):IntKind.wrap .u64 (no_index (OfNat.ofNat n:Int))=OfNat.ofNat n:=by
 have h1:=Nat.le_of_ble_eq_true h
 rw [pr];exact FF _ (by omega) (by omega)
theorem Dg (n:Nat) (h:Nat.ble n 255=true):IntKind.wrap .u8 (no_index (OfNat.ofNat n:Int))=OfNat.ofNat n:=by
 have h1:=Nat.le_of_ble_eq_true h
 rw [pr];exact Lx _ (by omega) (by omega)
theorem Q0 (a b:Nat):(a==b)=decide (a=b):=by
 by_cases h:a=b
 ·subst h;simp
 ·rw [decide_eq_false h];simpa using h
theorem Oo:List.range 0=[]:=rfl
theorem zF (m:Nat) (vs:List V):dc true h m vs=l5 m [] ((List.range m).flatMap fun b=>Ar (h b)):=rfl
theorem CA (m:Nat) (vs:List V):dc false h m vs=l5 m [] (vs.flatMap bK):=rfl
theorem MA (m:Nat) (row:List V):Ar (some ⟨m,true,[row]⟩)=row.flatMap bK:=by simp [Ar]
theorem Kw (m:Nat) (r:List (List V)):Ar (some ⟨m,false,r⟩)=[]:=rfl
theorem Pl:List.range 5=[0,1,2,3,4]:=rfl
theorem NP:List.range 6=[0,1,2,3,4,5]:=rfl
theorem Oj:List.range 7=[0,1,2,3,4,5,6]:=rfl
theorem Np:List.range 8=[0,1,2,3,4,5,6,7]:=rfl
theorem DJ (m:Nat) (acc:List Nat):l5 m acc []=acc:=rfl
theorem zs (m b:Nat) (acc r:List Nat):l5 m acc (b::r)=l5 m (br (Nat.ble m b) (bL acc b) acc) r:=by
 simp only [l5,ov]
 by_cases h:m≤b<;>simp [h,br]
theorem D5 (n:Nat):Int.toNat (no_index (OfNat.ofNat n:Int))=OfNat.ofNat n:=rfl
end
end Go.AI
