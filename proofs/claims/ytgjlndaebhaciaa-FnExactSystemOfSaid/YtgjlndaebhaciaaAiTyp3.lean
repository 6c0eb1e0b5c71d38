/- The machine's operations on values of Lean's own types: what writes, what makes, what calls; a function's end. -/
import Derived.Test.YtgjlndaebhaciaaAiTyp2
set_option linter.unusedVariables false
set_option linter.unusedSimpArgs false
namespace Go.AI
section
variable {C:aB} {ow:FuncId→List Nat} {ev:Opd→V} {h:ah} {n:Nat} {α:Type} {e:En α} {l l2:List α}
def snO (k:Option Blk) (b s q:Nat):Option (V×List Nat):=match k with
 |some k=>if k.op=false∧0<k.esz∧s+q=k.rows.length then some (.imm k.esz (k.rows.drop s),[b]) else none
 |none=>none
theorem H6 (b s q:Nat):ei h (.sl b s q)=snO (h b) b s q:=rfl
theorem Pz (m b q:Nat) (h0:Nat.blt 0 m=true) (hq:l.length=q):snO (some ⟨m,false,rws e l⟩) b 0 q=some (.imm m (rws e l),[b]):=by
 rw [lK,decide_eq_true_eq] at h0
 simp [snO,rws,hq,h0]
theorem Gd (k:IntKind) (a:Int):ei h (.lit (.int k a))=some (.lit (.int k a),[]):=rfl
theorem DG (a:Bool):ei h (.lit (.bool a))=some (.lit (.bool a),[]):=rfl
theorem Hi (a:List UInt8):ei h (S a)=some (S a,[]):=rfl
theorem Ia:ei h (.lit (.slice none 0 0))=some (.lit (.slice none 0 0),[]):=rfl
theorem G9 (m:Nat) (r:List (List V)):ei h (.imm m r)=some (.imm m r,[]):=rfl
def snC:Option (V×List Nat)→Option (List V×List Nat)→Option (List V×List Nat)
 |some (a,bs),some (r,bs')=>some (a.cz::r,bs++bs')
 |_,_=>none
theorem E2:dI h []=some ([],[]):=rfl
theorem zF (v:V) (r:List V):dI h (v::r)=snC (ei h v) (dI h r):=by
 simp only [dI,snC]
 cases ei h v<;>cases dI h r<;>rfl
theorem FC (a:V) (bs:List Nat) (r:List V) (bs':List Nat):snC (some (a,bs)) (some (r,bs'))=some (a.cz::r,bs++bs'):=rfl
theorem N2 (k:IntKind) (a:Int):(V.lit (.int k a)).cz= .lit (.int k a):=rfl
theorem LC (a:Bool):(V.lit (.bool a)).cz= .lit (.bool a):=rfl
theorem PR (a:List UInt8):(S a).cz=S a:=rfl
theorem Qj (a:Array Value):(V.lit (.tuple a)).cz= .lit (.tuple a):=rfl
theorem NU:(V.lit (.slice none 0 0)).cz= .imm 1 []:=rfl
theorem O2 (m:Nat):(V.imm m []).cz= .imm 1 []:=rfl
theorem Pe (b i o m:Nat):(V.ptr b i o m).cz= .ptr b i o m:=rfl
theorem Oy (b s q:Nat):(V.sl b s q).cz= .sl b s q:=rfl
theorem Lz (r:List V) (o:Nat):(V.iptr r o).cz= .iptr r o:=rfl
theorem R2 (f:FuncId) (cs:List V):(V.fn f cs).cz= .fn f cs:=rfl
theorem HJ:V.undef.cz= .undef:=rfl
theorem Ke (cs:List V):(V.agg cs).czA= .agg (cs.map V.cz):=rfl
theorem JX (k:IntKind) (a:Int):(V.lit (.int k a)).czA= .lit (.int k a):=rfl
theorem Im (a:Bool):(V.lit (.bool a)).czA= .lit (.bool a):=rfl
theorem Ky (a:List UInt8):(S a).czA=S a:=rfl
theorem LL:(V.lit (.slice none 0 0)).czA= .imm 1 []:=rfl
theorem Jc (m:Nat) (r:List (List V)):(V.imm m r).czA=(V.imm m r).cz:=rfl
theorem Lv (b i o m:Nat):(V.ptr b i o m).czA= .ptr b i o m:=rfl
theorem L4 (b s q:Nat):(V.sl b s q).czA= .sl b s q:=rfl
theorem IR (r:List V) (o:Nat):(V.iptr r o).czA= .iptr r o:=rfl
theorem PZ (f:FuncId) (cs:List V):(V.fn f cs).czA= .fn f cs:=rfl
theorem DA:V.undef.czA= .undef:=rfl
theorem Jk (cs:List V):(V.tup cs).czR= .tup (cs.map V.czA):=rfl
theorem Jj (cs:List V):(V.agg cs).czR= .agg (cs.map V.cz):=rfl
theorem JS (k:IntKind) (a:Int):(V.lit (.int k a)).czR= .lit (.int k a):=rfl
theorem FW (a:Bool):(V.lit (.bool a)).czR= .lit (.bool a):=rfl
theorem Lw (a:List UInt8):(S a).czR=S a:=rfl
theorem Jh:(V.lit (.slice none 0 0)).czR= .imm 1 []:=rfl
theorem Mw (m:Nat) (r:List (List V)):(V.imm m r).czR=(V.imm m r).cz:=rfl
theorem Lx (b i o m:Nat):(V.ptr b i o m).czR= .ptr b i o m:=rfl
theorem LA (b s q:Nat):(V.sl b s q).czR= .sl b s q:=rfl
theorem IT (r:List V) (o:Nat):(V.iptr r o).czR= .iptr r o:=rfl
theorem OC (f:FuncId) (cs:List V):(V.fn f cs).czR= .fn f cs:=rfl
theorem Fv (m:Nat) (row:List V):Blk.cz ⟨m,true,[row]⟩=⟨m,true,[row.map V.cz]⟩:=rfl
theorem FP (m:Nat) (r:List (List V)):Blk.cz ⟨m,false,r⟩=⟨m,false,r⟩:=rfl
theorem Pm (k:IntKind) (a:Int):zc (.int k a)= .lit (.int k a):=rfl
theorem KD (a:Bool):zc (.bool a)= .lit (.bool a):=rfl
theorem OH (a:List UInt8):zc (.string ⟨⟨a⟩⟩)=S a:=rfl
theorem NG:zc (.slice none 0 0)= .imm 1 []:=rfl
def stO (k:Option Blk) (b size i o m:Nat) (x:V) (h:ah):Option (V×Upd):=match k with
 |some k=>if k.rows.length=m then (match k.rows[i]? with
  |some row=>
   if k.op then
    (if x.cells.length=size∧o+size≤row.length∧x.cells.all V.cell then
     some (.undef,[(b,{ k with rows:=k.rows.set i (row.take o++(x.cells++row.drop (o+size))) })]) else none)
   else match dI h x.cells with
    |some (cs,bs)=>if cs.length=size∧o+size≤row.length∧ ¬b∈bs then
     some (.undef,cf bs++[(b,{ k with rows:=k.rows.set i (row.take o++(cs++row.drop (o+size))) })]) else none
    |none=>none
  |none=>none) else none
 |none=>none
def ze (size:Nat) (a x:V) (h:ah):Option (V×Upd):=match a with
 | .ptr b i o m=>stO (h b) b size i o m x h
 |_=>none
theorem M1 (size:Nat) (a x:Opd):ae C ow (.store size a x) ev h n=ze size (ev a) (ev x) h:=by
 simp only [ae,ze,stO]
 cases ev a with
 |ptr b i o m=>dsimp only;cases h b<;>rfl
 |_=>rfl
theorem EW (size b i o m:Nat) (x:V):ze size (.ptr b i o m) x h=stO (h b) b size i o m x h:=rfl
theorem B0 (m b size o:Nat) (row:List V) (x:V):stO (some ⟨m,true,[row]⟩) b size 0 o 1 x h=
 br (Nat.beq x.cells.length size&&(Nat.ble (o+size) row.length&&x.cells.all V.cell)) (some (.undef,[(b,⟨m,true,[row.take o++(x.cells++row.drop (o+size))]⟩)])) none:=by
 rw [oI,oB]
 by_cases h1:x.cells.length=size<;>by_cases h2:o+size≤row.length<;>cases h3:x.cells.all V.cell<;>simp [stO,h1,h2,h3,br]
def stT (r:List (List V)) (m b size i o:Nat) (row:List V):Option (List V×List Nat)→Option (V×Upd)
 |some (cs,bs)=>br (Nat.beq cs.length size&&(Nat.ble (o+size) row.length&& !bs.contains b)) (some (.undef,cf bs++[(b,⟨m,false,cG r i (row.take o++(cs++row.drop (o+size)))⟩)])) none
 |none=>none
theorem yD (r:List (List V)) (m b size i o:Nat) (row cs:List V) (bs:List Nat):stT r m b size i o row (some (cs,bs))=
 br (Nat.beq cs.length size&&(Nat.ble (o+size) row.length&& !bs.contains b)) (some (.undef,cf bs++[(b,⟨m,false,cG r i (row.take o++(cs++row.drop (o+size)))⟩)])) none:=rfl
theorem Ns (m b size i o q:Nat) (x:V) (hq:l.length=q):stO (some ⟨m,false,rws e l⟩) b size i o q x h=(l[i]?).bind (fun y=>stT (rws e l) m b size i o (e.enc y) (dI h x.cells)):=by
 simp only [stO]
 have:(rws e l).length=q:=by simp [rws,hq]
 rw [if_pos this]
 have h2:(rws e l)[i]? =(l[i]?).map e.enc:=by simp [rws]
 rw [h2]
 cases hl:l[i]? with
 |none=>rfl
 |some y=>
  simp only [Option.map_some,Option.bind_some]
  cases hs:dI h x.cells with
  |none=>simp [stT]
  |some p=>
   obtain ⟨cs,bs⟩:=p
   rw [yD,oI,oB]
   by_cases h1:cs.length=size<;>by_cases h2:o+size≤(e.enc y).length<;>by_cases h3:b∈bs<;>simp [h1,h2,h3,br,cG]
def psC (i:Nat):Option (List V×List Nat)→Option (List (Nat×V)×List Nat)→Option (List (Nat×V)×List Nat)
 |some (cs,bs),some (r',bs')=>some ((i,.agg cs)::r',bs++bs')
 |_,_=>none
theorem tz:bi h ev []=some ([],[]):=rfl
theorem rR (i:Nat) (x:Opd) (r:List (Nat×Opd)):bi h ev ((i,x)::r)=psC i (dI h (ev x).cells) (bi h ev r):=by
 simp only [bi,psC]
 cases dI h (ev x).cells<;>cases bi h ev r<;>rfl
theorem Hv (i:Nat) (cs:List V) (bs:List Nat) (r:List (Nat×V)) (bs':List Nat):psC i (some (cs,bs)) (some (r,bs'))=some ((i,.agg cs)::r,bs++bs'):=rfl
def oJ (esz:Nat) (rows:List (List V)):List (Nat×V)→Option (List (List V))
 |[]=>some rows
 | (i,v)::r=>br (Nat.beq v.cells.length esz&&(Nat.blt i rows.length&&v.cells.all V.cell)) (oJ esz (rows.set i v.cells) r) none
theorem xE (esz:Nat): ∀(ps:List (Nat×V)) (rows:List (List V)),rT esz rows ps=oJ esz rows ps
 |[],_=>rfl
 | (i,v)::r,rows=>by
   simp only [rT,oJ,oI,lK]
   rw [←xE esz r]
   by_cases h1:v.cells.length=esz<;>by_cases h2:i<rows.length<;>cases h3:v.cells.all V.cell<;>simp [h1,h2,br]
def AB (u0:Upd):Option (V×Upd)→Option (V×Upd)
 |some (v,u)=>some (v,u0++u)
 |none=>none
theorem BJ (u0 u:Upd) (v:V):AB u0 (some (v,u))=some (v,u0++u):=rfl
theorem JZ (u0:Upd) (c:Bool) (x y:Option (V×Upd)):AB u0 (br c x y)=br c (AB u0 x) (AB u0 y):=by cases c<;>rfl
theorem Dg (u0:Upd):AB u0 none=none:=rfl
def bsR (esz len:Nat) (zero:List Value) (bs:List Nat) (h:ah) (n:Nat):Option (List (List V))→Option (V×Upd)
 |some rows=>br (Nat.beq zero.length esz&&(zero.all aC&&(Nat.ble (len*esz) 16777216&& !bs.contains n))) (AB (cf bs) (frO (h n) n ⟨esz,false,mkR n rows⟩ (.sl n 0 len))) none
 |none=>none
def bsS (esz len:Nat) (zero:List Value) (h:ah) (n:Nat):Option (List (Nat×V)×List Nat)→Option (V×Upd)
 |some (ps,bs)=>bsR esz len zero bs h n (oJ esz (List.replicate len (zero.map zc)) ps)
 |none=>none
theorem vc (esz len:Nat) (zero:List Value) (ps:List (Nat×Opd)):ae C ow (.buildSlice esz zero len ps) ev h n=bsS esz len zero h n (bi h ev ps):=by
 simp only [ae,bsS,xE,iZ]
 cases bi h ev ps with
 |none=>rfl
 |some p=>
  obtain ⟨qs,bs⟩:=p
  dsimp only
  cases oJ esz (List.replicate len (zero.map zc)) qs with
  |none=>rfl
  |some rows=>
   simp only [bsR,oI,oB,mkR]
   by_cases h1:zero.length=esz<;>cases h2:zero.all aC<;>by_cases h3:len*esz≤16777216<;>by_cases h4:n∈bs<;>simp [h1,h3,h4,br]
   cases frO (h n) n ⟨esz,false,rows⟩ (.sl n 0 len)<;>rfl
theorem FM (esz len:Nat) (zero:List Value) (ps:List (Nat×V)) (bs:List Nat):bsS esz len zero h n (some (ps,bs))=bsR esz len zero bs h n (oJ esz (List.replicate len (zero.map zc)) ps):=rfl
theorem Gb (esz len:Nat) (zero:List Value) (bs:List Nat) (rows:List (List V)):bsR esz len zero bs h n (some rows)=br (Nat.beq zero.length esz&&(zero.all aC&&(Nat.ble (len*esz) 16777216&& !bs.contains n))) (AB (cf bs) (frO (h n) n ⟨esz,false,mkR n rows⟩ (.sl n 0 len))) none:=rfl
def tbS (x:V) (h:ah) (n:Nat):Option (V×Upd):=match x with
 | .lit (.string s)=>if s.size≤aK then du h n ⟨1,false,s.data.toList.map fun b=>[.lit (.int .u8 b.toNat)]⟩ (.sl n 0 s.size) else none
 |_=>none
theorem Cm (x:Opd):ae C ow (.toBytes x) ev h n=tbS (ev x) h n:=rfl
theorem Rb (s:List UInt8):tbS (S s) h n=br (dM s.length 1) (frO (h n) n ⟨1,false,rws eU8 s⟩ (.sl n 0 s.length)) none:=by
 simp only [tbS,vZ,dM,Nat.mul_one,iZ]
 by_cases h1:s.length≤aK<;>simp [h1,br]
 rfl
def boS (x:V) (h:ah):Option (V×Upd):=match x with
 | .sl b s n=>match h b with
   |some k=>if k.op=false∧0<k.esz∧s+n=k.rows.length∧0<n then some (.sl b s n,[(b,k)]) else none
   |none=>none
 |_=>none
theorem zu (x:Opd):ae C ow (.bytesOwn x) ev h n=boS (ev x) h:=rfl
def boO (k:Option Blk) (b s n:Nat):Option (V×Upd):=match k with
 |some k=>if k.op=false∧0<k.esz∧s+n=k.rows.length∧0<n then some (.sl b s n,[(b,k)]) else none
 |none=>none
theorem Lp (b s q:Nat):boS (.sl b s q) h=boO (h b) b s q:=rfl
theorem Ok (b m q:Nat) (h0:Nat.blt 0 m=true) (hq:l.length=q):boO (some ⟨m,false,rws e l⟩) b 0 q=br (decide (0<q)) (some (.sl b 0 q,[(b,⟨m,false,rws e l⟩)])) none:=by
 rw [lK,decide_eq_true_eq] at h0
 by_cases h1:0<q<;>simp [boO,rws,hq,h0,h1,br]
theorem yB (l:List UInt8):ae.bytesOf (rws eU8 l)=some l:=by
 induction l with
 |nil=>rfl
 |cons b l ih=>
  simp only [rws,List.map_cons,eU8] at ih ⊢
  simp only [ae.bytesOf]
  have h1:(0:Int)≤(b.toNat:Int)∧(b.toNat:Int)<256:=⟨by omega,by have:=b.toNat_lt;omega⟩
  rw [if_pos h1,ih]
  simp
noncomputable def tsR:Option (List (List V))→Option (V×Upd)
 |some rows=>match ae.bytesOf rows with
  |some l=>some (.lit (.string ⟨l.toArray⟩),[])
  |none=>none
 |none=>none
noncomputable def tsS (x:V) (h:ah):Option (V×Upd):=br (BD x) none (tsR (bg h 1 x))
theorem JB (x:Opd):ae C ow (.toStr x) ev h n=tsS (ev x) h:=by
 simp only [ae,tsS,tsR]
 cases BD (ev x)
 ·simp only [Bool.false_eq_true,if_false,b6]
  cases bg h 1 (ev x)<;>rfl
 ·rfl
theorem GB (l:List UInt8):tsR (some (rws eU8 l))=some (S l,[]):=by
 simp only [tsR,yB]
theorem Qi (l:List UInt8):tsS (sl eU8 l) h=some (S l,[]):=by
 rw [tsS,xl,b6,uD 1 rfl,GB]
def roO (k:Option Blk) (m s q:Nat):Option (List (List V)):=match k with
 |some k=>if k.op=false∧0<k.esz∧k.esz=m∧s+q=k.rows.length then some (k.rows.drop s) else none
 |none=>none
theorem AY (m b s q:Nat):bg h m (.sl b s q)=roO (h b) m s q:=rfl
theorem P5 (m q:Nat) (h0:Nat.blt 0 m=true) (hq:l.length=q):roO (some ⟨m,false,rws e l⟩) m 0 q=some (rws e l):=by
 rw [lK,decide_eq_true_eq] at h0
 simp [roO,rws,hq,h0]
theorem zq (s:List UInt8):bg h 1 (S s)=some (rws eU8 s):=rfl
theorem Lq (b s q:Nat):tsS (.sl b s q) h=tsR (roO (h b) 1 s q):=rfl
theorem Ln:tsS (.lit (.slice none 0 0)) h=some (S [],[]):=rfl
theorem Mt:tsS (.imm 1 []) h=some (S [],[]):=rfl
def PI (esz bytes:Nat) (zero:List Value) (len cap:V) (h:ah) (n:Nat):Option (V×Upd):=match asI len,asI cap with
 |some l,some c=>if 0≤l∧l≤c∧c*bytes≤aK∧c*esz≤aK∧zero.length=esz∧zero.all aC then
  du h n ⟨esz,false,List.replicate l.toNat (zero.map zc)⟩ (.sl n 0 l.toNat) else none
 |_,_=>none
theorem xC (esz bytes:Nat) (zero:List Value) (len cap:Opd):ae C ow (.makeSlice esz bytes zero len cap) ev h n=PI esz bytes zero (ev len) (ev cap) h n:=rfl
theorem OJ (esz bytes:Nat) (zero:List Value) (k k':IntKind) (a c:Int) (hb:Nat.ble esz bytes=true) (hz:Nat.beq zero.length esz=true) (hz2:zero.all aC=true):
 PI esz bytes zero (.lit (.int k a)) (.lit (.int k' c)) h n=br (zw a c bytes) (frO (h n) n ⟨esz,false,xb n a.toNat (zero.map zc)⟩ (.sl n 0 (Bs (xb n a.toNat (zero.map zc))))) none:=by
 have hz3:=Nat.eq_of_beq_eq_true hz
 have hb2:=Nat.le_of_ble_eq_true hb
 simp only [PI,asI,zw,hz3,hz2,iZ,xb,Bs,List.length_replicate]
 by_cases h1:0≤a<;>by_cases h2:a≤c<;>by_cases h3:c*bytes≤aK<;>simp [h1,h2,h3,br]
 intro h4
 exfalso
 have:c*esz≤c*bytes:=Int.mul_le_mul_of_nonneg_left (by omega) (by omega)
 omega
def slS (esz:Nat) (x:V) (lo hi mx:Option V) (h:ah):Option (V×Upd):=match mx with
 |some _=>none
 |none=>match x with
  | .lit (.slice none 0 0)=>match aP hi 0 0 with
    |some q=>match aP lo 0 q with
     |some _=>some (.lit (.slice none 0 0),[])
     |none=>none
    |none=>none
  | .sl b s n=>match h b with
    |some k=>if k.op=false∧0<k.esz∧k.esz=esz∧s+n=k.rows.length then (match aP hi n n with
     |some q=>match aP lo 0 q with
      |some p=>if q=n then some (.sl b (s+p) (n-p),[]) else some ((V.imm esz (((k.rows.drop s).take q).drop p)).cz,[(b,eG)])
      |none=>none
     |none=>none) else none
    |none=>none
  | .imm e rows=>if e=esz∨rows=[] then (match aP hi rows.length rows.length with
   |some q=>match aP lo 0 q with
    |some p=>some ((V.imm e ((rows.take q).drop p)).cz,[])
    |none=>none
   |none=>none) else none
  |_=>none
theorem Jf (esz:Nat) (x:Opd) (lo hi:Option Opd):ae C ow (.slice esz x lo hi none) ev h n=slS esz (ev x) (lo.map ev) (hi.map ev) none h:=rfl
theorem iY (d m:Nat):aP none d m=some d:=rfl
theorem ko (k:IntKind) (i:Int) (d m:Nat):aP (some (.lit (.int k i))) d m=if 0≤i∧i≤m then some i.toNat else none:=rfl
theorem re (m:Nat) (hm:e.esz=m) (lo hi:Option V):slS m (sl e l) lo hi none h=(match aP hi l.length l.length with
 |some q=>match aP lo 0 q with
  |some p=>some (sl e ((l.take q).drop p),[])
  |none=>none
 |none=>none):=by
 subst hm
 rcases cW e l with ⟨rfl,hs⟩|⟨hne,hs⟩
 ·rw [hs]
  simp only [slS,List.length_nil,or_true,if_true]
  cases aP hi 0 0 with
  |none=>rfl
  |some q=>cases aP lo 0 q<;>simp [On,V.cz]
 ·rw [hs]
  simp only [slS,true_or,if_true,rws,List.length_map]
  cases aP hi l.length l.length with
  |none=>rfl
  |some q=>cases aP lo 0 q<;>simp [sl,rws, ←List.map_take, ←List.map_drop]
theorem NF (m:Nat) (hm:e.esz=m):slS m (sl e l) none none none h=some (sl e l,[]):=by
 rw [re m hm];simp [iY]
theorem Nf (m:Nat) (hm:e.esz=m) (k:IntKind) (a:Int):slS m (sl e l) (some (.lit (.int k a))) none none h=(fT l a l.length).bind (fun l'=>some (sl e l',[])):=by
 rw [re m hm]
 simp only [iY,ko,fT]
 by_cases h1:0≤a<;>by_cases h2:a≤(l.length:Int)<;>simp [h1,h2]
theorem PB (m:Nat) (hm:e.esz=m) (k:IntKind) (b:Int):slS m (sl e l) none (some (.lit (.int k b))) none h=(fT l 0 b).bind (fun l'=>some (sl e l',[])):=by
 rw [re m hm]
 simp only [iY,ko,fT]
 by_cases h1:0≤b<;>by_cases h2:b≤(l.length:Int)<;>simp [h1,h2]
theorem Qh (m:Nat) (hm:e.esz=m) (k k':IntKind) (a b:Int):slS m (sl e l) (some (.lit (.int k a))) (some (.lit (.int k' b))) none h=(fT l a b).bind (fun l'=>some (sl e l',[])):=by
 rw [re m hm]
 simp only [ko,fT]
 by_cases h1:0≤b<;>by_cases h2:b≤(l.length:Int)<;>by_cases h3:0≤a<;>by_cases h4:a≤b
 all_goals (have e1:((b.toNat:Nat):Int)=b∨ ¬0≤b:=by omega)
 all_goals (rcases e1 with e1|e1)
 all_goals (first|omega| (simp [h1,h2,h3,h4,e1];try omega))
def slO (k:Option Blk) (m b s q:Nat) (a:Int):Option (V×Upd):=match k with
 |some k=>if k.op=false∧0<k.esz∧k.esz=m∧s+q=k.rows.length then (if 0≤a∧a≤q then some (.sl b (s+a.toNat) (q-a.toNat),[]) else none) else none
 |none=>none
theorem KC (m b s q:Nat) (k:IntKind) (a:Int):slS m (.sl b s q) (some (.lit (.int k a))) none none h=slO (h b) m b s q a:=by
 simp only [slS,slO,iY,ko]
 cases h b with
 |none=>rfl
 |some k=>
  dsimp only
  split
  ·by_cases hc:0≤a∧a≤(q:Int)
   ·rw [if_pos hc,if_pos hc];simp
   ·rw [if_neg hc,if_neg hc]
  ·rfl
theorem Pj (m b s q:Nat) (a:Int) (h0:Nat.blt 0 m=true) (hq:s+q=l.length):slO (some ⟨m,false,rws e l⟩) m b s q a=br (decide (0≤a)&&decide (a≤q)) (some (.sl b (s+a.toNat) (q-a.toNat),[])) none:=by
 rw [lK,decide_eq_true_eq] at h0
 by_cases h1:0≤a<;>by_cases h2:a≤(q:Int)<;>simp [slO,rws,hq,h0,h1,h2,br]
def ssS (x:V) (lo hi:Option V):Option (V×Upd):=match x with
 | .lit (.string s)=>match aP hi s.size s.size with
   |some b=>match aP lo 0 b with
    |some a=>some (.lit (.string (s.extract a b)),[])
    |none=>none
   |none=>none
 |_=>none
theorem As (x:Opd) (lo hi:Option Opd):ae C ow (.sliceStr x lo hi) ev h n=ssS (ev x) (lo.map ev) (hi.map ev):=rfl
theorem An (s:List UInt8) (a b:Nat):(⟨⟨s⟩⟩:ByteArray).extract a b=⟨⟨(s.take b).drop a⟩⟩:=by
 apply ByteArray.ext
 rw [ByteArray.data_extract]
 apply Array.ext'
 simp [List.extract_eq_take_drop,List.drop_take]
theorem r8 (s:List UInt8) (lo hi:Option V):ssS (S s) lo hi=(match aP hi s.length s.length with
 |some q=>match aP lo 0 q with
  |some p=>some (S ((s.take q).drop p),[])
  |none=>none
 |none=>none):=by
 simp only [ssS,vZ,An]
theorem OS (s:List UInt8):ssS (S s) none none=some (S s,[]):=by rw [r8];simp [iY]
theorem Nm (s:List UInt8) (k:IntKind) (a:Int):ssS (S s) (some (.lit (.int k a))) none=(fT s a s.length).bind (fun l'=>some (S l',[])):=by
 rw [r8]
 simp only [iY,ko,fT]
 by_cases h1:0≤a<;>by_cases h2:a≤(s.length:Int)<;>simp [h1,h2]
theorem N8 (s:List UInt8) (k:IntKind) (b:Int):ssS (S s) none (some (.lit (.int k b)))=(fT s 0 b).bind (fun l'=>some (S l',[])):=by
 rw [r8]
 simp only [iY,ko,fT]
 by_cases h1:0≤b<;>by_cases h2:b≤(s.length:Int)<;>simp [h1,h2]
theorem Ph (s:List UInt8) (k k':IntKind) (a b:Int):ssS (S s) (some (.lit (.int k a))) (some (.lit (.int k' b)))=(fT s a b).bind (fun l'=>some (S l',[])):=by
 rw [r8]
 simp only [ko,fT]
 by_cases h1:0≤b<;>by_cases h2:b≤(s.length:Int)<;>by_cases h3:0≤a<;>by_cases h4:a≤b
 all_goals (have e1:((b.toNat:Nat):Int)=b∨ ¬0≤b:=by omega)
 all_goals (rcases e1 with e1|e1)
 all_goals (first|omega| (simp [h1,h2,h3,h4,e1];try omega))
noncomputable def apS (esz bytes:Nat) (zero:List Value) (x y:V) (h:ah) (n:Nat):Option (List (List V))→Option (V×Upd)
 |none=>none
 |some new_=>if zero.length=esz∧0<esz∧new_.length*bytes≤aK∧new_.length*esz≤aK then
  (match x with
  | .sl b 0 n=>match h b with
    |some k=>if k.op=false∧0<k.esz∧k.esz=esz∧n=k.rows.length∧(n+new_.length)*bytes≤aK∧(n+new_.length)*esz≤aK∧ae.selfOk b y then
     some (.sl b 0 (n+new_.length),[(b,{ k with rows:=k.rows++new_ })]) else none
    |none=>none
  | .lit (.slice none 0 0)=>du h n ⟨esz,false,new_⟩ (.sl n 0 new_.length)
  | .imm 0 []=>du h n ⟨esz,false,new_⟩ (.sl n 0 new_.length)
  |_=>none) else none
theorem H4 (esz bytes:Nat) (zero:List Value) (x y:Opd):ae C ow (.append esz bytes zero x y) ev h n=apS esz bytes zero (ev x) (ev y) h n (bg h esz (ev y)):=by
 simp only [ae]
 cases bg h esz (ev y) with
 |none=>rfl
 |some r=>rfl
noncomputable def oR (b:Nat) (y:V):Bool:=ae.selfOk b y
theorem GJ (b:Nat):oR b (sl e l)=true:=by
 rcases cW e l with ⟨_,h⟩|⟨_,h⟩<;>rw [h]<;>rfl
theorem Dm (b b' s q:Nat):oR b (.sl b' s q)=(b !=b'):=rfl
theorem BY (b:Nat) (s:List UInt8):oR b (S s)=true:=rfl
theorem Cl (b:Nat):oR b (.lit (.slice none 0 0))=true:=rfl
theorem D7 (b m:Nat) (r:List (List V)):oR b (.imm m r)=true:=rfl
def apO (k:Option Blk) (esz bytes:Nat) (zero:List Value) (b q:Nat) (sb:Bool) (new_:List (List V)):Option (V×Upd):=match k with
 |some k=>if zero.length=esz∧0<esz∧new_.length*bytes≤aK∧new_.length*esz≤aK then
  (if k.op=false∧0<k.esz∧k.esz=esz∧q=k.rows.length∧(q+new_.length)*bytes≤aK∧(q+new_.length)*esz≤aK∧sb=true then
        some (.sl b 0 (q+new_.length),[(b,{ k with rows:=k.rows++new_ })]) else none) else none
 |none=>none
theorem LU (esz bytes:Nat) (zero:List Value) (b q:Nat) (y:V) (new_:List (List V)):apS esz bytes zero (.sl b 0 q) y h n (some new_)=apO (h b) esz bytes zero b q (oR b y) new_:=by
 simp only [apS,apO,oR]
 cases h b with
 |none=>simp
 |some k=>rfl
theorem PU (m bytes:Nat) (zero:List Value) (b q:Nat) (sb:Bool) (hz:Nat.beq zero.length m=true) (h0:Nat.blt 0 m=true) (hb:Nat.ble m bytes=true) (hq:l.length=q) (hs:sb=true):
 apO (some ⟨m,false,rws e l⟩) m bytes zero b q sb (rws e l2)=br (dM (l++l2).length bytes) (some (.sl b 0 (l++l2).length,[(b,⟨m,false,rws e (l++l2)⟩)])) none:=by
 have hz3:=Nat.eq_of_beq_eq_true hz
 have hb2:=Nat.le_of_ble_eq_true hb
 rw [lK,decide_eq_true_eq] at h0
 subst hs hq
 simp only [apO,dM,rws,List.length_map,List.length_append,List.map_append]
 have e1:(l.length+l2.length)*m≤(l.length+l2.length)*bytes:=Nat.mul_le_mul_left _ hb2
 have e2:l2.length*bytes≤(l.length+l2.length)*bytes:=Nat.mul_le_mul_right _ (by omega)
 have e3:l2.length*m≤l2.length*bytes:=Nat.mul_le_mul_left _ hb2
 by_cases hf:(l.length+l2.length)*bytes≤aK
 ·rw [if_pos ⟨hz3,h0,by omega,by omega⟩,if_pos ⟨by trivial,h0,by trivial,by trivial,hf,by omega,by trivial⟩,decide_eq_true hf,bG]
 ·rw [decide_eq_false hf,b6]
  split
  ·rw [if_neg (fun hc=>hf hc.2.2.2.2.1)]
  ·rfl
theorem KB (m bytes:Nat) (zero:List Value) (y:V) (hz:Nat.beq zero.length m=true) (h0:Nat.blt 0 m=true) (hb:Nat.ble m bytes=true):
 apS m bytes zero (.lit (.slice none 0 0)) y h n (some (rws e l2))=br (dM l2.length bytes) (frO (h n) n ⟨m,false,rws e l2⟩ (.sl n 0 l2.length)) none:=by
 have hz3:=Nat.eq_of_beq_eq_true hz
 have hb2:=Nat.le_of_ble_eq_true hb
 rw [lK,decide_eq_true_eq] at h0
 simp only [apS,dM,iZ]
 have hl:(rws e l2).length=l2.length:=by simp [rws]
 rw [hl]
 have e3:l2.length*m≤l2.length*bytes:=Nat.mul_le_mul_left _ hb2
 by_cases hf:l2.length*bytes≤aK
 ·rw [if_pos ⟨hz3,h0,hf,by omega⟩,decide_eq_true hf,bG]
 ·rw [decide_eq_false hf,b6,if_neg (fun hc=>hf hc.2.2.1)]
def ua (l:List α) (s k:Nat) (l2:List α):List α:=l.take s++(l2.take k++l.drop (s+k))
def Od (esz bytes:Nat) (zero:List Value) (x y:V) (h:ah) (n:Nat):Option (V×Upd):=match asI y with
 |some l=>if 0≤l∧l≤1099511627776∧l*bytes≤1099511627776∧zero.all aC then o8 esz bytes zero x (fun _=>true) h n (List.replicate l.toNat (zero.map zc)) else none
 |none=>none
theorem BW (esz bytes:Nat) (zero:List Value) (x y:Opd):ae C ow (.appendN esz bytes zero x y) ev h n=Od esz bytes zero (ev x) (ev y) h n:=rfl
theorem GS (m bytes:Nat) (zero:List Value) (b q:Nat) (k:IntKind) (a:Int) (hz2:zero.all aC=true):
 Od m bytes zero (.sl b 0 q) (.lit (.int k a)) h n=br (zw a a bytes&&decide (a≤1099511627776)) (apO (h b) m bytes zero b q true (xb n a.toNat (zero.map zc))) none:=by
 simp only [Od,asI,zw,hz2,xb,aK]
 by_cases h1:0≤a<;>by_cases h2:a*bytes≤1099511627776<;>by_cases h3:a≤1099511627776<;>simp [h1,h2,h3,br]
 simp only [o8,apO]
 cases h b with
 |none=>simp
 |some kk=>rfl
noncomputable def cpS (esz:Nat) (x y:V) (h:ah):Option (List (List V))→Option (V×Upd)
 |some rows=>match x with
  | .sl b s n=>match h b with
    |some k=>if k.op=false∧0<k.esz∧k.esz=esz∧s+n=k.rows.length∧ae.selfOk b y then
     some (.lit (.int .i64 (min rows.length n)),[(b,{ k with rows:=k.rows.take s++(rows.take (min rows.length n)++k.rows.drop (s+min rows.length n)) })]) else none
    |none=>none
  |_=>none
 |none=>none
theorem Nw (esz:Nat) (x y:Opd):ae C ow (.copy esz x y) ev h n=cpS esz (ev x) (ev y) h (bg h esz (ev y)):=by
 simp only [ae,cpS]
 cases bg h esz (ev y) with
 |none=>rfl
 |some r=>cases ev x<;>rfl
def cpO (k:Option Blk) (esz b s q:Nat) (sb:Bool) (rows:List (List V)):Option (V×Upd):=match k with
 |some k=>if k.op=false∧0<k.esz∧k.esz=esz∧s+q=k.rows.length∧sb=true then
  some (.lit (.int .i64 (min rows.length q)),[(b,{ k with rows:=k.rows.take s++(rows.take (min rows.length q)++k.rows.drop (s+min rows.length q)) })]) else none
 |none=>none
theorem Ms (esz b s q:Nat) (y:V) (rows:List (List V)):cpS esz (.sl b s q) y h (some rows)=cpO (h b) esz b s q (oR b y) rows:=by
 simp only [cpS,cpO,oR]
 cases h b<;>rfl
theorem Nh (m b s q:Nat) (sb:Bool) (h0:Nat.blt 0 m=true) (hs:sb=true):cpO (some ⟨m,false,rws e l⟩) m b s q sb (rws e l2)=
 br (decide (s+q=l.length)) (some (I (min (l2.length:Int) (q:Int)),[(b,⟨m,false,rws e (ua l s (min l2.length q) l2)⟩)])) none:=by
 rw [lK,decide_eq_true_eq] at h0
 subst hs
 simp only [cpO]
 by_cases hq:s+q=l.length
 ·rw [if_pos ⟨by trivial,h0,by trivial,by simp [rws,hq],by trivial⟩,decide_eq_true hq,bG]
  simp [rws,ua,List.map_take,List.map_drop]
 ·rw [decide_eq_false hq,b6,if_neg (fun hc=>hq (by simpa [rws] using hc.2.2.2.1))]
def ncS (x:V) (h:ah):Option (V×Upd):=match x with
 | .ptr b i o n=>match h b with
   |some k=>if k.rows.length=n∧i<n then some (.ptr b i o n,[]) else none
   |none=>none
 | .iptr r o=>some (.iptr r o,[])
 | .fn f c=>some (.fn f c,[])
 |_=>none
theorem zG (x:Opd):ae C ow (.nilCheck x) ev h n=ncS (ev x) h:=by
 simp only [ae,ncS]
 cases ev x<;>rfl
def ncO (k:Option Blk) (b i o m:Nat):Option (V×Upd):=match k with
 |some k=>if k.rows.length=m∧i<m then some (.ptr b i o m,[]) else none
 |none=>none
theorem Rq (b i o m:Nat):ncS (.ptr b i o m) h=ncO (h b) b i o m:=rfl
theorem PM (b o m:Nat) (row:List V):ncO (some ⟨m,true,[row]⟩) b 0 o 1=some (.ptr b 0 o 1,[]):=rfl
theorem Rp (r:List V) (o:Nat):ncS (.iptr r o) h=some (.iptr r o,[]):=rfl
theorem RR (f:FuncId) (c:List V):ncS (.fn f c) h=some (.fn f c,[]):=rfl
def mxS (x y:V):Option (V×Upd):=match x,y with
 | .lit (.int k a),.lit (.int _ b)=>some (.lit (.int k (if b>a then b else a)),[])
 |_,_=>none
theorem NC (x y:Opd):ae C ow (.max2 x y) ev h n=mxS (ev x) (ev y):=by
 simp only [ae,mxS]
 cases ev x<;>cases ev y<;>rfl
theorem RE (k k':IntKind) (a b:Int):mxS (.lit (.int k a)) (.lit (.int k' b))=some (.lit (.int k (mx a b)),[]):=rfl
def mnS (x y:V):Option (V×Upd):=match x,y with
 | .lit (.int k a),.lit (.int _ b)=>some (.lit (.int k (if b<a then b else a)),[])
 |_,_=>none
theorem PQ (x y:Opd):ae C ow (.min2 x y) ev h n=mnS (ev x) (ev y):=by
 simp only [ae,mnS]
 cases ev x<;>cases ev y<;>rfl
theorem QL (k k':IntKind) (a b:Int):mnS (.lit (.int k a)) (.lit (.int k' b))=some (.lit (.int k (mn a b)),[]):=rfl
noncomputable def pY (fl ro:Bool) (h:ah) (new:Nat) (ids bor:List Nat):Option (V×List Blk)→Option (V×Upd)
 |some (r,bs)=>roW ro h (iL fl h new ids bor r bs)
 |none=>none
noncomputable def roX (k':Option Blk) (b:Nat) (k:Blk) (x:Option Upd):Option Upd:=match k' with
 |none=>x.map ((b,k):: ·)
 |some k'=>open Classical in if k'=k then x else none
def roE (v:V):Option Upd→Option (V×Upd)
 |some u=>some (v,u)
 |none=>none
theorem KM:roU h []=some []:=rfl
theorem EB (b:Nat) (k:Blk) (r:Upd):roU h ((b,k)::r)=roX (h b) b k (roU h r):=by
 simp only [roU,roX];cases h b<;>rfl
theorem GN (b:Nat) (k:Blk) (x:Option Upd):roX (some k) b k x=x:=by simp [roX]
theorem J3 (b:Nat) (k:Blk) (u:Upd):roX none b k (some u)=some ((b,k)::u):=rfl
theorem Ie (v:V) (u:Upd):roE v (some u)=some (v,u):=rfl
theorem Ri (x:Option (V×Upd)):roW false h x=x:=by cases x<;>rfl
theorem Om (c:Bool) (x y:Option (V×Upd)):roW true h (br c x y)=br c (roW true h x) (roW true h y):=by cases c<;>rfl
theorem Gt:roW true h none=none:=rfl
theorem Fl (v:V) (u:Upd):roW true h (some (v,u))=roE v (roU h u):=by
 simp only [roW,if_true,roE];cases roU h u<;>rfl
noncomputable def ou (C:aB) (ow:FuncId→List Nat) (h:ah) (new:Nat) (f:FuncId):Option (List V×List Blk×List Nat×List Nat)→Option (V×Upd)
 |some (args',blks,ids,bor)=>pY ((ow f).contains 2000) ((ow f).contains 3000) h new ids bor (C f (gU (ow f) args') (gM (ow f) blks))
 |none=>none
theorem u4 (f:FuncId) (args:List V):dQ C ow h n f args=ou C ow h n f (bn ow h f args):=by
 unfold dQ ou pY
 cases bn ow h f args with
 |none=>rfl
 |some p=>obtain ⟨a,b,c,d⟩:=p;dsimp only;cases C f (gU (ow f) a) (gM (ow f) b)<;>rfl
theorem Nt (f:FuncId) (args:List Opd):ae C ow (.call f args) ev h n=ou C ow h n f (bn ow h f (args.map ev)):=u4 _ _
noncomputable def PA (C:aB) (ow:FuncId→List Nat) (h:ah) (n:Nat) (args:List V):V→Option (V×Upd)
 | .fn k caps=>ou C ow h n k (bn ow h k (args++caps))
 |_=>none
theorem RX (f:Opd) (args:List Opd):ae C ow (.dyn f args) ev h n=PA C ow h n (args.map ev) (ev f):=by
 simp only [ae,PA]
 cases ev f<;>first|rfl|exact u4 _ _
theorem MA (args:List V) (k:FuncId) (caps:List V):PA C ow h n args (.fn k caps)=ou C ow h n k (bn ow h k (args++caps)):=rfl
theorem zX (f:FuncId) (a:List V) (b:List Blk) (c d:List Nat):ou C ow h n f (some (a,b,c,d))=pY ((ow f).contains 2000) ((ow f).contains 3000) h n c d (C f (gU (ow f) a) (gM (ow f) b)):=rfl
theorem Ft (f:FuncId) (c:Bool) (x y:Option (List V×List Blk×List Nat×List Nat)):ou C ow h n f (br c x y)=br c (ou C ow h n f x) (ou C ow h n f y):=by cases c<;>rfl
def BC (args':List V) (bor:List Nat):Option (List Blk×List Nat)→Option (List V×List Blk×List Nat×List Nat)
 |some (blks,ids)=>br (bor.any (fun b=>decide (b∈ids))) none (some (args',blks,ids,bor))
 |none=>none
def yp (h:ah):Option (List V×List Nat×List Nat)→Option (List V×List Blk×List Nat×List Nat)
 |some (args',ids0,bor)=>BC args' bor (bB h 40 0 ids0)
 |none=>none
theorem yL (f:FuncId) (args:List V):bn ow h f args=yp h (ct h (ow f) 0 [] args):=by
 unfold bn yp BC
 cases ct h (ow f) 0 [] args with
 |none=>rfl
 |some p=>
  obtain ⟨a,i,b⟩:=p
  dsimp only
  cases bB h 40 0 i with
  |none=>rfl
  |some q=>
   obtain ⟨bl,ids⟩:=q
   dsimp only
   cases hb:b.any (fun b=>decide (b∈ids))<;>simp [br]
theorem zM (a:List V) (i b:List Nat):yp h (some (a,i,b))=BC a b (bB h 40 0 i):=rfl
theorem zH (a:List V) (b:List Nat) (bl:List Blk) (ids:List Nat):BC a b (some (bl,ids))=br (b.any (fun b=>decide (b∈ids))) none (some (a,bl,ids,b)):=rfl
def la2 (v':V) (bs:List Nat):Option (List V×List Nat×List Nat)→Option (List V×List Nat×List Nat)
 |some (r',ids'',bs')=>some (v'::r',ids'',bs++bs')
 |none=>none
def la1 (h:ah) (owns:List Nat) (j:Nat) (r:List V):Option (V×List Nat×List Nat)→Option (List V×List Nat×List Nat)
 |some (v',ids',bs)=>la2 v' bs (ct h owns (j+1) ids' r)
 |none=>none
theorem yj (owns:List Nat) (j:Nat) (ids:List Nat):ct h owns j ids []=some ([],ids,[]):=rfl
theorem wo (owns:List Nat) (j:Nat) (ids:List Nat) (v:V) (r:List V):ct h owns j ids (v::r)=la1 h owns j r (bp h (owns.contains j) ids v):=by
 have:decide (j∈owns)=owns.contains j:=by simp [List.contains_iff_mem,Bool.eq_iff_iff]
 simp only [ct,la1,la2,this]
 cases bp h (owns.contains j) ids v with
 |none=>rfl
 |some p=>obtain ⟨a,b,c⟩:=p;dsimp only;cases ct h owns (j+1) b r<;>rfl
theorem IZ (owns:List Nat) (j:Nat) (r:List V) (v':V) (ids' bs:List Nat):la1 h owns j r (some (v',ids',bs))=la2 v' bs (ct h owns (j+1) ids' r):=rfl
theorem HO (v':V) (bs:List Nat) (r':List V) (i b:List Nat):la2 v' bs (some (r',i,b))=some (v'::r',i,bs++b):=rfl
def lcP (k:Option Blk) (ids:List Nat) (b i o m:Nat):Option (V×List Nat×List Nat):=match k with
 |some k=>if k.rows.length=m then some (.ptr (cM b (bL ids b)) i o m,bL ids b,[]) else none
 |none=>none
def lcO (k:Option Blk) (own:Bool) (ids:List Nat) (b s q:Nat):Option (V×List Nat×List Nat):=match k with
 |some k=>if s+q=k.rows.length then
  (if own then some (.sl (cM b (bL ids b)) s q,bL ids b,[]) else if k.op=false∧0<k.esz then some (.imm k.esz (k.rows.drop s),ids,[b]) else none) else none
 |none=>none
theorem IK (own:Bool) (ids:List Nat) (v:Value):aU h own ids (.lit v)=some (.lit v,ids,[]):=rfl
theorem OD (own:Bool) (ids:List Nat) (m:Nat) (r:List (List V)):aU h own ids (.imm m r)=some (.imm m r,ids,[]):=rfl
theorem Kk (own:Bool) (ids:List Nat) (r:List V) (o:Nat):aU h own ids (.iptr r o)=some (.iptr r o,ids,[]):=rfl
theorem QK (own:Bool) (ids:List Nat) (f:FuncId):aU h own ids (.fn f [])=some (.fn f [],ids,[]):=rfl
theorem FE (own:Bool) (ids:List Nat):aU h own ids .undef=some (.undef,ids,[]):=rfl
theorem Qb (own:Bool) (ids:List Nat) (b i o m:Nat):aU h own ids (.ptr b i o m)=lcP (h b) ids b i o m:=rfl
theorem Oz (own:Bool) (ids:List Nat) (b s q:Nat):aU h own ids (.sl b s q)=lcO (h b) own ids b s q:=rfl
theorem rE (own:Bool) (ids:List Nat) (v:Value):bp h own ids (.lit v)=some (.lit v,ids,[]):=rfl
theorem No (own:Bool) (ids:List Nat) (m:Nat) (r:List (List V)):bp h own ids (.imm m r)=some (.imm m r,ids,[]):=rfl
theorem Mv (own:Bool) (ids:List Nat) (r:List V) (o:Nat):bp h own ids (.iptr r o)=some (.iptr r o,ids,[]):=rfl
theorem Pk (own:Bool) (ids:List Nat) (b i o m:Nat):bp h own ids (.ptr b i o m)=lcP (h b) ids b i o m:=rfl
theorem Ox (own:Bool) (ids:List Nat) (b s q:Nat):bp h own ids (.sl b s q)=lcO (h b) own ids b s q:=rfl
def lcA (mk:List V→V):Option (List V×List Nat×List Nat)→Option (V×List Nat×List Nat)
 |some (cs',ids',bs)=>some (mk cs',ids',bs)
 |none=>none
theorem N5 (own:Bool) (ids:List Nat) (cs:List V):bp h own ids (.agg cs)=lcA V.agg (bm h own ids cs):=by
 simp only [bp,lcA]
 cases bm h own ids cs<;>rfl
theorem RM (own:Bool) (ids:List Nat) (f:FuncId) (cs:List V):bp h own ids (.fn f cs)=lcA (V.fn f) (bm h true ids cs):=by
 simp only [bp,lcA]
 cases bm h true ids cs<;>rfl
theorem Fg (mk:List V→V) (cs:List V) (i b:List Nat):lcA mk (some (cs,i,b))=some (mk cs,i,b):=rfl
def EA (h:ah) (own:Bool) (r:List V):Option (V×List Nat×List Nat)→Option (List V×List Nat×List Nat)
 |some (v',ids',bs)=>la2 v' bs (bm h own ids' r)
 |none=>none
theorem wx (own:Bool) (ids:List Nat):bm h own ids []=some ([],ids,[]):=rfl
theorem nu (own:Bool) (ids:List Nat) (v:V) (r:List V):bm h own ids (v::r)=EA h own r (aU h own ids v):=by
 simp only [bm,EA,la2]
 cases aU h own ids v with
 |none=>rfl
 |some p=>obtain ⟨a,b,c⟩:=p;dsimp only;cases bm h own b r<;>rfl
theorem uh (own:Bool) (r:List V) (v':V) (ids' bs:List Nat):EA h own r (some (v',ids',bs))=la2 v' bs (bm h own ids' r):=rfl
theorem Na (ids:List Nat) (b o m:Nat) (row:List V):lcP (some ⟨m,true,[row]⟩) ids b 0 o 1=some (.ptr (cM b (bL ids b)) 0 o 1,bL ids b,[]):=rfl
theorem QW (m:Nat) (ids:List Nat) (b s q:Nat) (hq:s+q=l.length):lcO (some ⟨m,false,rws e l⟩) true ids b s q=some (.sl (cM b (bL ids b)) s q,bL ids b,[]):=by
 simp [lcO,rws,hq]
theorem MV (m:Nat) (ids:List Nat) (b q:Nat) (h0:Nat.blt 0 m=true) (hq:l.length=q):lcO (some ⟨m,false,rws e l⟩) false ids b 0 q=some (.imm m (rws e l),ids,[b]):=by
 rw [lK,decide_eq_true_eq] at h0
 simp [lcO,rws,hq,h0]
def lb2 (k:Blk):Option (List Blk×List Nat)→Option (List Blk×List Nat)
 |some (r,ids')=>some (k::r,ids')
 |none=>none
def ld2 (v':V):Option (List V×List Nat)→Option (List V×List Nat)
 |some (r',i)=>some (v'::r',i)
 |none=>none
def ld1 (h:ah) (r:List V):Option (V×List Nat×List Nat)→Option (List V×List Nat)
 |some (v',ids',_)=>ld2 v' (ff h ids' r)
 |none=>none
theorem E3 (ids:List Nat):ff h ids []=some ([],ids):=rfl
theorem j1 (ids:List Nat) (v:V) (r:List V):ff h ids (v::r)=ld1 h r (bp h true ids v):=by
 simp only [ff,ld1,ld2]
 cases bp h true ids v with
 |none=>rfl
 |some p=>obtain ⟨a,b,c⟩:=p;dsimp only;cases ff h b r<;>rfl
theorem mK (r:List V) (v':V) (ids' bs:List Nat):ld1 h r (some (v',ids',bs))=ld2 v' (ff h ids' r):=rfl
theorem HL (v':V) (r':List V) (i:List Nat):ld2 v' (some (r',i))=some (v'::r',i):=rfl
def lb1 (h:ah) (fuel pos m:Nat):Option (List V×List Nat)→Option (List Blk×List Nat)
 |some (row,ids1)=>lb2 ⟨m,true,[row]⟩ (bB h fuel (pos+1) ids1)
 |none=>none
def lb0 (h:ah) (fuel pos:Nat) (ids:List Nat):Option Blk→Option (List Blk×List Nat)
 |some k=>if k.op=false then lb2 k (bB h fuel (pos+1) ids) else (match dY h ids k.rows with
  |none=>none
  |some (rows,ids1)=>lb2 { k with rows:=rows } (bB h fuel (pos+1) ids1))
 |none=>none
def lbN (h:ah) (fuel pos:Nat) (ids:List Nat):Option Nat→Option (List Blk×List Nat)
 |none=>some ([],ids)
 |some b=>lb0 h fuel pos ids (h b)
theorem Ar (fuel pos:Nat) (ids:List Nat):bB h (fuel+1) pos ids=lbN h fuel pos ids ids[pos]? :=by
 simp only [bB,lbN,lb0]
 cases ids[pos]? with
 |none=>rfl
 |some b=>
  dsimp only
  cases h b with
  |none=>rfl
  |some k=>
   dsimp only
   split
   ·cases bB h fuel (pos+1) ids<;>rfl
   ·cases dY h ids k.rows with
    |none=>rfl
    |some p=>obtain ⟨rows,ids1⟩:=p;dsimp only;cases bB h fuel (pos+1) ids1<;>rfl
theorem GY (fuel pos:Nat) (ids:List Nat):lbN h fuel pos ids none=some ([],ids):=rfl
theorem GP (fuel pos:Nat) (ids:List Nat) (b:Nat):lbN h fuel pos ids (some b)=lb0 h fuel pos ids (h b):=rfl
theorem Q1 (fuel pos:Nat) (ids:List Nat) (m:Nat) (r:List (List V)):lb0 h fuel pos ids (some ⟨m,false,r⟩)=lb2 ⟨m,false,r⟩ (bB h fuel (pos+1) ids):=rfl
theorem Q6 (fuel pos:Nat) (ids:List Nat) (m:Nat) (row:List V):lb0 h fuel pos ids (some ⟨m,true,[row]⟩)=lb1 h fuel pos m (ff h ids row):=by
 simp only [lb0,dY,lb1]
 cases ff h ids row with
 |none=>rfl
 |some p=>obtain ⟨a,b⟩:=p;rfl
theorem Ic (fuel pos m:Nat) (row:List V) (ids1:List Nat):lb1 h fuel pos m (some (row,ids1))=lb2 ⟨m,true,[row]⟩ (bB h fuel (pos+1) ids1):=rfl
theorem GA (k:Blk) (r:List Blk) (ids:List Nat):lb2 k (some (r,ids))=some (k::r,ids):=rfl
theorem Rx (n:Nat):bI [] [] n=[]:=rfl
theorem Rr (k:Blk) (r:List Blk) (n:Nat):bI [] (k::r) n=n::bI [] r (n+1000000):=rfl
theorem Sk (i:Nat) (ids:List Nat) (k:Blk) (r:List Blk) (n:Nat):bI (i::ids) (k::r) n=bI ids r n:=rfl
def cpw (fl:Bool) (new:Nat) (ids bor:List Nat) (r:V) (bs:List Blk) (ns:List Nat):Option (V×Upd):=some (jY (ids++ns) r,dS (ids++ns) (bs.map (cI (ids++ns)))++br (bor.isEmpty||(fY r&&bs.all (dH fl))) [] (cf bor))
theorem Q9 (fl:Bool) (new:Nat) (ids bor:List Nat) (r:V) (bs:List Blk) (ns:List Nat):cpw fl new ids bor r bs ns=some (jY (ids++ns) r,dS (ids++ns) (bs.map (cI (ids++ns)))++br (bor.isEmpty||(fY r&&bs.all (dH fl))) [] (cf bor)):=rfl
theorem AK (fl ro:Bool) (new:Nat) (ids bor:List Nat) (r:V) (bs:List Blk):pY fl ro h new ids bor (some (r,bs))=
 roW ro h (br (Nat.ble ids.length bs.length&&(bI ids bs new).all (fun b=>(h b).isNone)) (cpw fl new ids bor r bs (bI ids bs new)) none):=by
 refine congrArg (roW ro h) ?_
 simp only [iL,cpw,oB]
 generalize (bI ids bs new).all (fun b=>(h b).isNone)=c3
 generalize (bor.isEmpty||(fY r&&bs.all (dH fl)))=c4
 by_cases h1:ids.length≤bs.length
 ·rw [decide_eq_true h1];cases c3<;>cases c4<;>simp [h1,br]
 ·rw [decide_eq_false h1];cases c3<;>cases c4<;>simp [h1,br]
theorem Em (ids:List Nat) (vs:List V):jY ids (.tup vs)= .tup (vs.map (dn ids)):=rfl
theorem Dq (ids:List Nat) (vs:List V):jY ids (.agg vs)= .agg (vs.map (unV ids)):=rfl
theorem DU (ids:List Nat) (v:Value):jY ids (.lit v)= .lit v:=rfl
theorem Dx (ids:List Nat) (m:Nat) (r:List (List V)):jY ids (.imm m r)= .imm m r:=rfl
theorem xV (ids:List Nat):jY ids .undef= .undef:=rfl
theorem Eb (ids:List Nat) (b i o m:Nat):jY ids (.ptr b i o m)= .ptr (ids.getD b 0) i o m:=rfl
theorem DE (ids:List Nat) (b s q:Nat):jY ids (.sl b s q)= .sl (ids.getD b 0) s q:=rfl
theorem Eo (ids:List Nat) (vs:List V):dn ids (.agg vs)= .agg (vs.map (unV ids)):=rfl
theorem BN (ids:List Nat) (v:Value):dn ids (.lit v)= .lit v:=rfl
theorem Dw (ids:List Nat) (m:Nat) (r:List (List V)):dn ids (.imm m r)= .imm m r:=rfl
theorem Dp (ids:List Nat) (b i o m:Nat):dn ids (.ptr b i o m)= .ptr (ids.getD b 0) i o m:=rfl
theorem CF (ids:List Nat) (b s q:Nat):dn ids (.sl b s q)= .sl (ids.getD b 0) s q:=rfl
theorem JY (ids:List Nat) (v:Value):unV ids (.lit v)= .lit v:=rfl
theorem NX (ids:List Nat) (f:FuncId) (cs:List V):unV ids (.fn f cs)= .fn f cs:=rfl
theorem FB (ids:List Nat) (f:FuncId) (cs:List V):dn ids (.fn f cs)= .fn f (cs.map (unV ids)):=rfl
theorem KF (ids:List Nat) (m:Nat) (r:List (List V)):unV ids (.imm m r)= .imm m r:=rfl
theorem MJ (ids:List Nat) (b i o m:Nat):unV ids (.ptr b i o m)= .ptr (ids.getD b 0) i o m:=rfl
theorem KH (ids:List Nat) (b s q:Nat):unV ids (.sl b s q)= .sl (ids.getD b 0) s q:=rfl
theorem H0 (ids:List Nat) (m:Nat) (r:List (List V)):cI ids ⟨m,false,r⟩=⟨m,false,r⟩:=rfl
theorem E9 (ids:List Nat) (m:Nat) (row:List V):cI ids ⟨m,true,[row]⟩=⟨m,true,[row.map (dn ids)]⟩:=rfl
theorem Pa (v:Value):fY (.lit v)=true:=rfl
theorem F7:fY .undef=true:=rfl
theorem O5 (m:Nat) (r:List (List V)):fY (.imm m r)=false:=rfl
theorem P0 (vs:List V):fY (.agg vs)=vs.all eH:=rfl
theorem NB (vs:List V):fY (.tup vs)=vs.all kW:=rfl
theorem PH (b i o m:Nat):fY (.ptr b i o m)=true:=rfl
theorem NN (b s q:Nat):fY (.sl b s q)=true:=rfl
theorem LP (v:Value):kW (.lit v)=true:=rfl
theorem KS (m:Nat) (r:List (List V)):kW (.imm m r)=false:=rfl
theorem MN (vs:List V):kW (.agg vs)=vs.all eH:=rfl
theorem K1 (b i o m:Nat):kW (.ptr b i o m)=true:=rfl
theorem Li (b s q:Nat):kW (.sl b s q)=true:=rfl
theorem Mq (v:Value):eH (.lit v)=true:=rfl
theorem PT (f:FuncId) (cs:List V):eH (.fn f cs)=false:=rfl
theorem N1 (f:FuncId) (cs:List V):kW (.fn f cs)=false:=rfl
theorem RP (f:FuncId) (cs:List V):fY (.fn f cs)=false:=rfl
theorem M6 (m:Nat) (r:List (List V)):eH (.imm m r)=false:=rfl
theorem Mz (b i o m:Nat):eH (.ptr b i o m)=true:=rfl
theorem L9 (b s q:Nat):eH (.sl b s q)=true:=rfl
theorem NK (m:Nat) (r:List (List V)):dH false ⟨m,false,r⟩=false:=rfl
theorem ot {α:Type} {e:En α} (he: ∀x,(e.enc x).all eH=true) (m:Nat) (l:List α):dH true ⟨m,false,rws e l⟩=true:=by
 simp only [dH,Bool.true_or,Bool.true_and,rws,List.all_map,List.all_eq_true]
 exact fun x _=>he x
theorem Rv (m:Nat) (l:List Int):dH true ⟨m,false,rws eI l⟩=true:=ot (fun _=>rfl) m l
theorem RB (m:Nat) (l:List Bool):dH true ⟨m,false,rws eB l⟩=true:=ot (fun _=>rfl) m l
theorem R6 (m:Nat) (l:List UInt8):dH true ⟨m,false,rws eU8 l⟩=true:=ot (fun _=>rfl) m l
theorem LI (m:Nat) (l:List Int):dH true ⟨m,false,rws yl l⟩=true:=ot (fun _=>rfl) m l
theorem Rl (m:Nat) (l:List (List UInt8)):dH true ⟨m,false,rws eS l⟩=true:=ot (fun _=>rfl) m l
theorem PP (fl:Bool) (m:Nat) (row:List V):dH fl ⟨m,true,[row]⟩=row.all eH:=by simp [dH]
def JN (raw:Bool) (m:Nat):Option (List V)→Option (List Blk)→Option (V×List Blk)
 |some vs',some bs=>br (Nat.ble m 1000) (some ((uW vs').czR,br raw bs (bs.map Blk.cz))) none
 |_,_=>none
def xr (keep raw:Bool) (m:Nat) (h:ah):Option (List V)→Option (V×List Blk)
 |some vs=>JN raw m (io h m (br keep (di raw h m vs) []) vs) (hQ h m (br keep (di raw h m vs) []) (List.range m++(br keep (di raw h m vs) [])))
 |none=>none
theorem BE (nt:Nat) (body:aw) (res:List oL) (keep raw:Bool) (m:Nat) (st:St) (x:aH) (hx:x= .ret∨x= .normal):zZ ⟨nt,body,res,keep,raw⟩ m x st=xr keep raw m st.heap (dj st res):=by
 have hk: ∀vs:List V,(if keep=true then di raw st.heap m vs else [])=br keep (di raw st.heap m vs) []:=fun vs=>by cases keep<;>rfl
 have:zZ ⟨nt,body,res,keep,raw⟩ m x st=zZ ⟨nt,body,res,keep,raw⟩ m .ret st:=by rcases hx with rfl|rfl<;>rfl
 rw [this]
 simp only [zZ,cU,xr,JN,xM,hk,oB]
 cases dj st res with
 |none=>rfl
 |some vs=>
  dsimp only
  cases io st.heap m (br keep (di raw st.heap m vs) []) vs with
  |none=>rfl
  |some vs'=>
   cases hQ st.heap m (br keep (di raw st.heap m vs) []) (List.range m++(br keep (di raw st.heap m vs) [])) with
   |none=>rfl
   |some bs=>by_cases h1:m≤1000<;>cases raw<;>simp [h1,br]
theorem ES (nt:Nat) (body:aw) (res:List oL) (keep raw:Bool) (m:Nat) (st:St):zZ ⟨nt,body,res,keep,raw⟩ m .ret st=xr keep raw m st.heap (dj st res):=BE _ _ _ _ _ _ _ _ (.inl rfl)
theorem xR (nt:Nat) (body:aw) (res:List oL) (keep raw:Bool) (m:Nat) (st:St):zZ ⟨nt,body,res,keep,raw⟩ m .normal st=xr keep raw m st.heap (dj st res):=BE _ _ _ _ _ _ _ _ (.inr rfl)
theorem BH (keep raw:Bool) (m:Nat) (vs:List V):xr keep raw m h (some vs)=JN raw m (io h m (br keep (di raw h m vs) []) vs) (hQ h m (br keep (di raw h m vs) []) (List.range m++(br keep (di raw h m vs) []))):=rfl
theorem C4 (raw:Bool) (m:Nat) (vs:List V) (bs:List Blk):JN raw m (some vs) (some bs)=br (Nat.ble m 1000) (some ((uW vs).czR,br raw bs (bs.map Blk.cz))) none:=rfl
def rs1:Option V→Option (List V)→Option (List V)
 |some v,some vs=>some (v::vs)
 |_,_=>none
theorem HX (st:St):dj st []=some []:=rfl
theorem DR (st:St) (r:oL) (rs:List oL):dj st (r::rs)=rs1 (nM st r) (dj st rs):=by
 simp only [dj,rs1]
 cases nM st r<;>cases dj st rs<;>rfl
theorem GK (v:V) (vs:List V):rs1 (some v) (some vs)=some (v::vs):=rfl
theorem Jl (st:St) (t:Nat):nM st (.tmp t)=some (st.get t):=rfl
theorem FG (st:St) (t:Nat) (g:Option Nat):nM st (.cell t g)=iQ g st.heap (st.get t):=rfl
def Tb:Option V→Option (List V)→Option (List V)
 |some v,some vs=>some (v::vs)
 |_,_=>none
theorem CO (m:Nat) (kp:List Nat):io h m kp []=some []:=rfl
theorem Al (m:Nat) (kp:List Nat) (v:V) (r:List V):io h m kp (v::r)=rs1 (lL h m kp v) (io h m kp r):=by
 simp only [io,rs1]
 cases lL h m kp v<;>cases io h m kp r<;>rfl
theorem CQ (m:Nat) (kp:List Nat):il h m kp []=some []:=rfl
theorem sH (m:Nat) (kp:List Nat) (v:V) (r:List V):il h m kp (v::r)=rs1 (ew h m kp v) (il h m kp r):=by
 simp only [il,rs1]
 cases ew h m kp v<;>cases il h m kp r<;>rfl
def fag:Option (List V)→Option V
 |some cs=>some (.agg cs)
 |none=>none
theorem Gk (m:Nat) (kp:List Nat) (cs:List V):lL h m kp (.agg cs)=fag (il h m kp cs):=by
 simp only [lL,fag]
 cases il h m kp cs<;>rfl
theorem J6 (cs:List V):fag (some cs)=some (.agg cs):=rfl
theorem EJ (m:Nat) (kp:List Nat) (v:Value):lL h m kp (.lit v)=some (.lit v):=rfl
theorem HS (m:Nat) (kp:List Nat) (q:Nat) (r:List (List V)):lL h m kp (.imm q r)=some (.imm q r):=rfl
theorem A3 (m:Nat) (kp:List Nat):lL h m kp .undef=some .undef:=rfl
theorem LR (m:Nat) (kp:List Nat) (f:FuncId):lL h m kp (.fn f [])=some (.fn f []):=rfl
theorem Ev (m:Nat) (kp:List Nat) (v:Value):ew h m kp (.lit v)=some (.lit v):=rfl
theorem Es (m:Nat) (kp:List Nat) (q:Nat) (r:List (List V)):ew h m kp (.imm q r)=some (.imm q r):=rfl
theorem Kl (m:Nat) (kp:List Nat) (f:FuncId):ew h m kp (.fn f [])=some (.fn f []):=rfl
theorem AW (m:Nat) (kp:List Nat):ew h m kp .undef=some .undef:=rfl
def K3:Option (V×List Nat)→Option V
 |some (v,_)=>some v
 |none=>none
def fcO (h:ah) (m:Nat) (kp:List Nat) (b s q:Nat):Option V:=br (Nat.blt b m) (some (.sl b s q)) (br (kp.contains b) (some (.sl (m+cM b kp) s q)) (K3 (ei h (.sl b s q))))
theorem sC (m:Nat) (kp:List Nat) (b s q:Nat):ew h m kp (.sl b s q)=fcO h m kp b s q:=by
 simp only [ew,fcO,lK,K3]
 by_cases h1:b<m
 ·simp [h1,br]
 ·by_cases h2:b∈kp
  ·simp [h1,h2,br]
  ·have:kp.contains b=false:=by simpa using h2
   simp only [h1,h2,this,if_false,decide_false,b6]
   cases ei h (.sl b s q)<;>rfl
theorem Ii (m:Nat) (kp:List Nat) (b s q:Nat):lL h m kp (.sl b s q)=fcO h m kp b s q:=sC m kp b s q
theorem Qa (m:Nat) (kp:List Nat) (b s q:Nat):fcO h m kp b s q=br (Nat.blt b m) (some (.sl b s q)) (br (kp.contains b) (some (.sl (m+cM b kp) s q)) (K3 (ei h (.sl b s q)))):=rfl
theorem Cx (v:V) (bs:List Nat):K3 (some (v,bs))=some v:=rfl
def fcP (m:Nat) (kp:List Nat) (b i o q:Nat):Option V:=br (Nat.blt b m) (some (.ptr b i o q)) (br (kp.contains b) (some (.ptr (m+cM b kp) i o q)) none)
theorem rp (m:Nat) (kp:List Nat) (b i o q:Nat):ew h m kp (.ptr b i o q)=fcP m kp b i o q:=by
 simp only [ew,fcP,lK]
 by_cases h1:b<m
 ·simp [h1,br]
 ·by_cases h2:b∈kp
  ·simp [h1,h2,br]
  ·have:kp.contains b=false:=by simpa using h2
   simp [h1,h2,this,br]
theorem Iy (m:Nat) (kp:List Nat) (b i o q:Nat):lL h m kp (.ptr b i o q)=fcP m kp b i o q:=rp (h:=h) m kp b i o q
theorem NH (m:Nat) (kp:List Nat) (b i o q:Nat):fcP m kp b i o q=br (Nat.blt b m) (some (.ptr b i o q)) (br (kp.contains b) (some (.ptr (m+cM b kp) i o q)) none):=rfl
def fb2:Option Blk→Option (List Blk)→Option (List Blk)
 |some k,some r=>some (k::r)
 |_,_=>none
def fb1 (h:ah) (m:Nat) (kp r:List Nat):Option Blk→Option (List Blk)
 |some k=>fb2 (rL h m kp k) (hQ h m kp r)
 |none=>none
theorem Cd (m:Nat) (kp:List Nat):hQ h m kp []=some []:=rfl
theorem zI (m:Nat) (kp:List Nat) (b:Nat) (r:List Nat):hQ h m kp (b::r)=fb1 h m kp r (h b):=by
 simp only [hQ,fb1,fb2]
 cases h b with
 |none=>rfl
 |some k=>dsimp only;cases rL h m kp k<;>cases hQ h m kp r<;>rfl
theorem Fu (m:Nat) (kp r:List Nat) (k:Blk):fb1 h m kp r (some k)=fb2 (rL h m kp k) (hQ h m kp r):=rfl
theorem EU (k:Blk) (r:List Blk):fb2 (some k) (some r)=some (k::r):=rfl
theorem MD (m:Nat) (kp:List Nat) (q:Nat) (r:List (List V)):rL h m kp ⟨q,false,r⟩=some ⟨q,false,r⟩:=rfl
def fbO (q:Nat):Option (List V)→Option Blk
 |some row=>some ⟨q,true,[row]⟩
 |none=>none
theorem DD (m:Nat) (kp:List Nat):jo h m kp []=some []:=rfl
theorem j0 (m:Nat) (kp:List Nat) (v:V) (r:List V):jo h m kp (v::r)=rs1 (nl h m kp v) (jo h m kp r):=by
 simp only [jo,rs1]
 cases nl h m kp v<;>cases jo h m kp r<;>rfl
def fnR (f:FuncId):Option (List V)→Option V
 |some cs=>some (.fn f cs)
 |none=>none
theorem Gw (f:FuncId) (cs:List V):fnR f (some cs)=some (.fn f cs):=rfl
theorem Hh (m:Nat) (kp:List Nat) (f:FuncId):nl h m kp (.fn f [])=some (.fn f []):=rfl
theorem ML (m:Nat) (kp:List Nat) (f:FuncId) (c:V) (cs:List V):nl h m kp (.fn f (c::cs))=fnR f (il h m kp (c::cs)):=by
 simp only [nl,fnR]
 cases il h m kp (c::cs)<;>rfl
theorem It (m:Nat) (kp:List Nat) (v:Value):nl h m kp (.lit v)=some (.lit v):=rfl
theorem Gs (m:Nat) (kp:List Nat) (q:Nat) (r:List (List V)):nl h m kp (.imm q r)=some (.imm q r):=rfl
theorem Ap (m:Nat) (kp:List Nat):nl h m kp .undef=some .undef:=rfl
theorem Di (m:Nat) (kp:List Nat) (r:List V) (o:Nat):nl h m kp (.iptr r o)=some (.iptr r o):=rfl
theorem Hx (m:Nat) (kp:List Nat) (b s q:Nat):nl h m kp (.sl b s q)=fcO h m kp b s q:=sC m kp b s q
theorem HN (m:Nat) (kp:List Nat) (b i o q:Nat):nl h m kp (.ptr b i o q)=fcP m kp b i o q:=rp (h:=h) m kp b i o q
theorem JD (m:Nat) (kp:List Nat) (q:Nat) (row:List V):rL h m kp ⟨q,true,[row]⟩=fbO q (jo h m kp row):=by
 simp only [rL,gN,fbO]
 cases jo h m kp row<;>rfl
theorem Hg (q:Nat) (row:List V):fbO q (some row)=some ⟨q,true,[row]⟩:=rfl
theorem Gv (t u:Nat) (v:V) (r:List (Nat×V)) (m:List (Nat×Blk)):St.get ⟨(u,v)::r,m⟩ t=if u=t then v else St.get ⟨r,m⟩ t:=by
 simp only [St.get,b7]
 split<;>rfl
theorem KQ (t:Nat) (m:List (Nat×Blk)):St.get ⟨[],m⟩ t= .undef:=rfl
theorem CG (b c:Nat) (k:Blk) (r:List (Nat×Blk)) (x:List (Nat×V)):St.heap ⟨x,(c,k)::r⟩ b=if c=b then some k else St.heap ⟨x,r⟩ b:=rfl
theorem H9 (b:Nat) (x:List (Nat×V)):St.heap ⟨x,[]⟩ b=none:=rfl
theorem Ga (x:List (Nat×V)) (m:List (Nat×Blk)) (d:Nat) (v:V):St.put ⟨x,m⟩ (some d) v=⟨(d,v)::x,m⟩:=rfl
theorem F9 (st:St) (v:V):st.put none v=st:=rfl
theorem Qf (x:List (Nat×V)) (m:List (Nat×Blk)) (u:Upd):St.upd ⟨x,m⟩ u=⟨x,xy m u⟩:=rfl
theorem K0 (st:St):st.upd []=st:=rfl
theorem HU (m:List (Nat×Blk)):xy m []=m:=rfl
theorem DP (m:List (Nat×Blk)) (b:Nat) (k:Blk) (r:Upd):xy m ((b,k)::r)=xy (ci b k m) r:=rfl
theorem HA {β:Type} (k:Nat) (v:β):ci k v []=[(k,v)]:=rfl
theorem Cw {β:Type} (k j:Nat) (v u:β) (r:List (Nat×β)):ci k v ((j,u)::r)=if j=k then (j,v)::r else (j,u)::ci k v r:=rfl
theorem SU (st:St) (t:Nat):st.ev (.t t)=st.get t:=rfl
theorem SH (st:St) (v:Value):st.ev (.c v)= .lit v:=rfl
theorem Sz (st:St) (f:FuncId):st.ev (.f f)= .fn f []:=rfl
theorem My (live:List Nat) (x:List (Nat×V)) (m:List (Nat×Blk)):trim live ⟨x,m⟩=⟨live.map fun t=>(t,St.get ⟨x,m⟩ t),m⟩:=rfl
theorem Ag {β:Type} (n:Nat):eY n ([]:List β)=[]:=rfl
theorem xJ {β:Type} (n:Nat) (x:β) (r:List β):eY n (x::r)=(n,x)::eY (n+1) r:=rfl
theorem start_eq (a:List V) (b:List Blk):start a b=⟨eY 0 a,eY 0 b⟩:=rfl
theorem xZ:ca ev []=[]:=rfl
theorem vX (a b:Nat) (x:Opd) (r:List (Nat×Nat×Opd)):ca ev ((a,b,x)::r)=(a,b,ev x)::ca ev r:=rfl
theorem Dz (cs:List V):pT cs []=some cs:=rfl
theorem zY (cs:List V) (off size:Nat) (v:V) (r:List (Nat×Nat×V)):pT cs ((off,size,v)::r)=br (Nat.beq v.cells.length size&&Nat.ble (off+size) cs.length&&v.cells.all V.cell) (pT (cs.take off++(v.cells++cs.drop (off+size))) r) none:=rfl
theorem Ec (m:Nat) (r:List (List V)):oJ m r []=some r:=rfl
theorem Av (m:Nat) (rows:List (List V)) (i:Nat) (v:V) (r:List (Nat×V)):oJ m rows ((i,v)::r)=br (Nat.beq v.cells.length m&&(Nat.blt i rows.length&&v.cells.all V.cell)) (oJ m (rows.set i v.cells) r) none:=rfl
theorem C6 (cs:List V):(V.agg cs).cells=cs:=rfl
theorem uC (v:Value):(V.lit v).cells=[.lit v]:=rfl
theorem BQ (m:Nat) (r:List (List V)):(V.imm m r).cells=[.imm m r]:=rfl
theorem De (b s q:Nat):(V.sl b s q).cells=[.sl b s q]:=rfl
theorem DT (b i o m:Nat):(V.ptr b i o m).cells=[.ptr b i o m]:=rfl
theorem A7 (r:List V) (o:Nat):(V.iptr r o).cells=[.iptr r o]:=rfl
theorem FD (f:FuncId) (cs:List V):(V.fn f cs).cells=[.fn f cs]:=rfl
theorem xj (k:IntKind) (a:Int):(V.lit (.int k a)).cell=true:=rfl
theorem Dd (a:Bool):(V.lit (.bool a)).cell=true:=rfl
theorem J1 (a:ByteArray):(V.lit (.string a)).cell=true:=rfl
theorem Hw (a:Option Addr) (n m:Nat):(V.lit (.slice a n m)).cell=true:=rfl
theorem Gx (m:Nat) (r:List (List V)):(V.imm m r).cell=true:=rfl
theorem IV (b s q:Nat):(V.sl b s q).cell=true:=rfl
theorem FR (b i o m:Nat):(V.ptr b i o m).cell=true:=rfl
theorem Dl (r:List V) (o:Nat):(V.iptr r o).cell=true:=rfl
theorem Mf (f:FuncId) (cs:List V):(V.fn f cs).cell=true:=rfl
theorem JH (k:IntKind) (a:Int):aC (.int k a)=true:=rfl
theorem FU (a:Bool):aC (.bool a)=true:=rfl
theorem JO (a:ByteArray):aC (.string a)=true:=rfl
theorem Lt (a:Option Addr) (n m:Nat):aC (.slice a n m)=true:=rfl
theorem JW (a:Option Addr):aC (.pointer a)=true:=rfl
theorem E5:cf []=[]:=rfl
theorem A9 (b:Nat) (r:List Nat):cf (b::r)=(b,eG)::cf r:=rfl
theorem Md (ids:List Nat):dS ids []=[]:=by cases ids<;>rfl
theorem Gz (i:Nat) (ids:List Nat) (k:Blk) (r:List Blk):dS (i::ids) (k::r)=(i,k)::dS ids r:=rfl
theorem Ip (b x:Nat) (r:List Nat):cM b (x::r)=if x=b then 0 else cM b r+1:=rfl
theorem zP (b:Nat):bL [] b=[b]:=rfl
theorem DL (ids:List Nat) (b:Nat):bL ids b=br (ids.contains b) ids (ids++[b]):=by
 unfold bL
 by_cases h:b∈ids<;>simp [h,br]
theorem Oi:List.range 1=[0]:=rfl
theorem P4:List.range 2=[0,1]:=rfl
theorem Oh:List.range 3=[0,1,2]:=rfl
theorem Qq:List.range 4=[0,1,2,3]:=rfl
theorem IL (v:V):uW [v]=v:=rfl
theorem Gr:uW []= .tup []:=rfl
theorem GR (a b:V) (r:List V):uW (a::b::r)= .tup (a::b::r):=rfl
theorem zx (o:List Nat) (a:List V):gU o a=br (o.contains 1000) a (a.map V.czA):=by
 unfold gU;cases o.contains 1000<;>rfl
theorem AJ (o:List Nat) (a:List Blk):gM o a=br (o.contains 1000) a (a.map Blk.cz):=by
 unfold gM;cases o.contains 1000<;>rfl
theorem Ch (a:Nat) (r:List Nat):(a::r).getD 0 0=a:=rfl
theorem BL (a n:Nat) (r:List Nat):(a::r).getD (n+1) 0=r.getD n 0:=rfl
def zt (st:St) (bs:List Nat):St:={ e:=rh (fzA st.heap bs) st.e,m:=fzM st.heap bs st.m }
theorem HH (st:St) (bs:List Nat):aL st (.close bs)=br (bs.all (fun b=>Nat.ble 1000 b)) (some (zt st bs)) none:=by
 simp only [aL,zt,oB]
 cases bs.all (fun b=>decide (1000≤b))<;>rfl
theorem E4 (x:List (Nat×V)) (m:List (Nat×Blk)) (bs:List Nat):zt ⟨x,m⟩ bs=⟨rh (fzA (St.heap ⟨x,m⟩) bs) x,fzM (St.heap ⟨x,m⟩) bs m⟩:=rfl
theorem FZ (g:V→V):rh g []=[]:=rfl
theorem Ee (g:V→V) (t:Nat) (v:V) (r:List (Nat×V)):rh g ((t,v)::r)=(t,g v)::rh g r:=rfl
variable {bs:List Nat}
theorem Nl (v:Value):fzA h bs (.lit v)= .lit v:=rfl
theorem Po (m:Nat) (r:List (List V)):fzA h bs (.imm m r)= .imm m r:=rfl
theorem KY (r:List V) (o:Nat):fzA h bs (.iptr r o)= .iptr r o:=rfl
theorem IC:fzA h bs .undef= .undef:=rfl
theorem Qu (vs:List V):fzA h bs (.tup vs)= .undef:=rfl
def fzO:Option (V×List Nat)→V
 |some (v,_)=>v.cz
 |none=> .undef
theorem Fc (b s q:Nat):fzA h bs (.sl b s q)=br (bs.contains b) (fzO (ei h (.sl b s q))) (.sl b s q):=by
 simp only [fzA,fzC,fzO]
 by_cases hb:b∈bs
 ·simp [hb,br];cases ei h (.sl b s q)<;>rfl
 ·simp [hb,br]
theorem FH (b i o m:Nat):fzA h bs (.ptr b i o m)=br (bs.contains b) .undef (.ptr b i o m):=by
 simp only [fzA,fzC]
 by_cases hb:b∈bs<;>simp [hb,br]
theorem GX (v:V) (b:List Nat):fzO (some (v,b))=v.cz:=rfl
theorem OK (cs:List V):fzA h bs (.agg cs)=br ((cs.map (fzC h bs)).all V.cell) (.agg (cs.map (fzC h bs))) .undef:=by
 simp only [fzA]
 cases (cs.map (fzC h bs)).all V.cell<;>rfl
theorem MO (f:FuncId) (cs:List V):fzA h bs (.fn f cs)=br (cs.all okC&& !(cs.flatMap ft).any (fun b=>bs.contains b)) (.fn f cs) .undef:=by
 simp only [fzA,fzC]
 have:(fun b=>decide (b∈bs))=fun b=>bs.contains b:=by funext b;simp [Bool.eq_iff_iff]
 rw [this]
 cases (cs.all okC&& !(cs.flatMap ft).any (fun b=>bs.contains b))<;>rfl
theorem LV (v:Value):fzC h bs (.lit v)= .lit v:=rfl
theorem Jq (m:Nat) (r:List (List V)):fzC h bs (.imm m r)= .imm m r:=rfl
theorem Ni (f:FuncId) (cs:List V):fzC h bs (.fn f cs)=br (cs.all okC&& !(cs.flatMap ft).any (fun b=>bs.contains b)) (.fn f cs) .undef:=MO (h:=h) f cs
theorem K6 (b i o m:Nat):okC (.ptr b i o m)=true:=rfl
theorem JU (b s q:Nat):okC (.sl b s q)=true:=rfl
theorem LQ (v:Value):okC (.lit v)=true:=rfl
theorem Kz (m:Nat) (r:List (List V)):okC (.imm m r)=true:=rfl
theorem Qd (f:FuncId):okC (.fn f [])=true:=rfl
theorem H7 (r:List V) (o:Nat):fzC h bs (.iptr r o)= .iptr r o:=rfl
theorem Jy (b s q:Nat):fzC h bs (.sl b s q)=br (bs.contains b) (fzO (ei h (.sl b s q))) (.sl b s q):=Fc b s q
theorem KA (b i o m:Nat):fzC h bs (.ptr b i o m)=br (bs.contains b) .undef (.ptr b i o m):=FH (h:=h) b i o m
theorem LM:fzM h bs []=[]:=rfl
def fzK (h:ah) (bs:List Nat) (k:Blk):Blk:=if k.op then (if (k.rows.map (·.map (fzC h bs))).all (·.all V.cell) then { k with rows:=k.rows.map (·.map (fzC h bs)) } else eG) else k
theorem HB (b:Nat) (k:Blk) (r:List (Nat×Blk)):fzM h bs ((b,k)::r)=br (bs.contains b) (fzM h bs r) ((b,fzK h bs k)::fzM h bs r):=by
 simp only [fzM,fzK]
 by_cases hb:b∈bs<;>simp [hb,br]
theorem OM (m:Nat) (r:List (List V)):fzK h bs ⟨m,false,r⟩=⟨m,false,r⟩:=rfl
theorem PK (m:Nat) (row:List V):fzK h bs ⟨m,true,[row]⟩=br ((row.map (fzC h bs)).all V.cell) ⟨m,true,[row.map (fzC h bs)]⟩ eG:=by
 simp only [fzK,List.map_cons,List.map_nil,List.all_cons,List.all_nil,Bool.and_true,if_true]
 cases (row.map (fzC h bs)).all V.cell<;>rfl
section
variable {R:Type} {T:Tab} {ow:be} {k:aH→St→Option R} {d:Option Nat} {n:Nat} {ss:List aD} {live:List Nat} {K:List Fr} {st:St} {base i:Nat} {deps:List (List Nat)} {rs:List Rec} {fp:List Nat} {r:R}
theorem He {fl ro:Bool} {h:ah} {new:Nat} {ids bor:List Nat} {x:Option (V×List Blk)} {p:V×List Blk} (hx:x=some p) (hr:aft T ow k d n ss live K st (pY fl ro h new ids bor (some p))=some r):aft T ow k d n ss live K st (pY fl ro h new ids bor x)=some r:=by
 rw [hx];exact hr
theorem Dt {fl ro:Bool} {h:ah} {new:Nat} {ids bor:List Nat} {x:Option (V×List Blk)} {p:V×List Blk} (hx:x=some p) (hr:qz T ow k d base i ss deps live rs K st fp (pY fl ro h new ids bor (some p))=some r):qz T ow k d base i ss deps live rs K st fp (pY fl ro h new ids bor x)=some r:=by
 rw [hx];exact hr
theorem Rf (b:Int):nn b=decide (0≤b):=rfl
theorem Sn (b:Int):nz b=decide (b≠0):=rfl
theorem Oc (i:Int) (n:Nat):inb i n=(decide (0≤i)&&decide (i.toNat<n)):=rfl
end
end
section
variable {ow:be} {ev:Opd→V} {h:ah} {α:Type} {e:En α} {l:List α}
theorem QP (x:Opd):bT ow (.mv x) ev h=[]:=rfl
theorem QV (x:Opd):(AOp.mv x).opds=[x]:=rfl
theorem LN (c a b:Opd):bT ow (.pick c a b) ev h=((AOp.pick c a b).opds.map ev).flatMap bK:=rfl
theorem K2 (c a b:Opd):(AOp.pick c a b).opds=[c,a,b]:=rfl
theorem FV (z:List Value):bT ow (.alloc z) ev h=((AOp.alloc z).opds.map ev).flatMap bK:=rfl
theorem Gm (z:List Value):(AOp.alloc z).opds=[]:=rfl
theorem Ow (m:Nat) (x:Opd):bT ow (.box m x) ev h=((AOp.box m x).opds.map ev).flatMap bK:=rfl
theorem Nz (m:Nat) (x:Opd):(AOp.box m x).opds=[x]:=rfl
theorem yn (z:List Value) (ps:List (Nat×Nat×Opd)):bT ow (.build z ps) ev h=((AOp.build z ps).opds.map ev).flatMap bK:=rfl
theorem xY (z:List Value) (ps:List (Nat×Nat×Opd)):(AOp.build z ps).opds=ps.map (·.2.2):=rfl
theorem tO (m:Nat) (z:List Value) (l:Nat) (ps:List (Nat×Opd)):bT ow (.buildSlice m z l ps) ev h=((AOp.buildSlice m z l ps).opds.map ev).flatMap bK:=rfl
theorem tu (m:Nat) (z:List Value) (l:Nat) (ps:List (Nat×Opd)):(AOp.buildSlice m z l ps).opds=ps.map (·.2):=rfl
theorem Kq (g:Option Nat) (x:Opd):bT ow (.load g x) ev h=((AOp.load g x).opds.map ev).flatMap bK:=rfl
theorem K7 (g:Option Nat) (x:Opd):(AOp.load g x).opds=[x]:=rfl
theorem F4 (m:Nat) (x y:Opd):bT ow (.store m x y) ev h=((AOp.store m x y).opds.map ev).flatMap bK:=rfl
theorem I5 (m:Nat) (x y:Opd):(AOp.store m x y).opds=[x,y]:=rfl
theorem yG (x:Opd):bT ow (.nilCheck x) ev h=((AOp.nilCheck x).opds.map ev).flatMap bK:=rfl
theorem xv (x:Opd):(AOp.nilCheck x).opds=[x]:=rfl
theorem Pc (op:BinOp) (x y:Opd):bT ow (.bin op x y) ev h=((AOp.bin op x y).opds.map ev).flatMap bK:=rfl
theorem Qm (op:BinOp) (x y:Opd):(AOp.bin op x y).opds=[x,y]:=rfl
theorem IG (b:Bool) (ks:List Bool) (x y:Opd):bT ow (.eqAgg b ks x y) ev h=((AOp.eqAgg b ks x y).opds.map ev).flatMap bK:=rfl
theorem GW (b:Bool) (ks:List Bool) (x y:Opd):(AOp.eqAgg b ks x y).opds=[x,y]:=rfl
theorem PE (b:Bool) (x y:Opd):bT ow (.beq b x y) ev h=((AOp.beq b x y).opds.map ev).flatMap bK:=rfl
theorem Ng (b:Bool) (x y:Opd):(AOp.beq b x y).opds=[x,y]:=rfl
theorem RH (op:UnOp) (x:Opd):bT ow (.un op x) ev h=((AOp.un op x).opds.map ev).flatMap bK:=rfl
theorem QH (op:UnOp) (x:Opd):(AOp.un op x).opds=[x]:=rfl
theorem Iw (k:IntKind) (x:Opd):bT ow (.toInt k x) ev h=((AOp.toInt k x).opds.map ev).flatMap bK:=rfl
theorem Gq (k:IntKind) (x:Opd):(AOp.toInt k x).opds=[x]:=rfl
theorem Ki (x:Opd):bT ow (.same x) ev h=((AOp.same x).opds.map ev).flatMap bK:=rfl
theorem Kn (x:Opd):(AOp.same x).opds=[x]:=rfl
theorem zU (x:Opd):bT ow (.toBytes x) ev h=((AOp.toBytes x).opds.map ev).flatMap bK:=rfl
theorem zl (x:Opd):(AOp.toBytes x).opds=[x]:=rfl
theorem ID (x:Opd):bT ow (.toStr x) ev h=((AOp.toStr x).opds.map ev).flatMap bK:=rfl
theorem Fx (x:Opd):(AOp.toStr x).opds=[x]:=rfl
theorem wH (f:FuncId) (cs:List Opd):bT ow (.makeFunc f cs) ev h=[]:=rfl
theorem z1 (f:FuncId) (cs:List Opd):(AOp.makeFunc f cs).opds=cs:=rfl
theorem uK (m b:Nat) (z:List Value) (x y:Opd):bT ow (.makeSlice m b z x y) ev h=((AOp.makeSlice m b z x y).opds.map ev).flatMap bK:=rfl
theorem ve (m b:Nat) (z:List Value) (x y:Opd):(AOp.makeSlice m b z x y).opds=[x,y]:=rfl
theorem wD (x:Opd) (lo hi:Option Opd):bT ow (.sliceStr x lo hi) ev h=((AOp.sliceStr x lo hi).opds.map ev).flatMap bK:=rfl
theorem yq (x:Opd) (lo hi:Option Opd):(AOp.sliceStr x lo hi).opds=x::(oy lo++oy hi):=rfl
theorem FT (m:Nat) (x:Opd) (lo hi mx:Option Opd):bT ow (.slice m x lo hi mx) ev h=((AOp.slice m x lo hi mx).opds.map ev).flatMap bK:=rfl
theorem Fe (m:Nat) (x:Opd) (lo hi mx:Option Opd):(AOp.slice m x lo hi mx).opds=x::(oy lo++(oy hi++oy mx)):=rfl
theorem Q2 (m:Nat) (x:Opd):bT ow (.off m x) ev h=[]:=rfl
theorem Pb (m:Nat) (x:Opd):(AOp.off m x).opds=[x]:=rfl
theorem Ha (m:Nat) (g:Option Nat) (x:Opd):bT ow (.field m g x) ev h=((AOp.field m g x).opds.map ev).flatMap bK:=rfl
theorem G6 (m:Nat) (g:Option Nat) (x:Opd):(AOp.field m g x).opds=[x]:=rfl
theorem OA (m:Nat) (x y:Opd):bT ow (.idx m x y) ev h=((AOp.idx m x y).opds.map ev).flatMap bK:=rfl
theorem P6 (m:Nat) (x y:Opd):(AOp.idx m x y).opds=[x,y]:=rfl
theorem E6 (m q:Nat) (x y:Opd):bT ow (.idxArr m q x y) ev h=((AOp.idxArr m q x y).opds.map ev).flatMap bK:=rfl
theorem Df (m q:Nat) (x y:Opd):(AOp.idxArr m q x y).opds=[x,y]:=rfl
theorem Fp (x y:Opd):bT ow (.ixStr x y) ev h=((AOp.ixStr x y).opds.map ev).flatMap bK:=rfl
theorem Gi (x y:Opd):(AOp.ixStr x y).opds=[x,y]:=rfl
theorem Fq (m q:Nat) (g:Option Nat) (x y:Opd):bT ow (.ixAgg m q g x y) ev h=((AOp.ixAgg m q g x y).opds.map ev).flatMap bK:=rfl
theorem EV (m q:Nat) (g:Option Nat) (x y:Opd):(AOp.ixAgg m q g x y).opds=[x,y]:=rfl
theorem Oe (x:Opd) (i:Nat):bT ow (.ext x i) ev h=[]:=rfl
theorem O6 (x:Opd) (i:Nat):(AOp.ext x i).opds=[x]:=rfl
theorem Pr (b:Bool) (x:Opd):bT ow (.len b x) ev h=[]:=rfl
theorem Q4 (b:Bool) (x:Opd):(AOp.len b x).opds=[x]:=rfl
theorem BO (m:Nat) (x:Opd):bT ow (.lenArr m x) ev h=((AOp.lenArr m x).opds.map ev).flatMap bK:=rfl
theorem Ek (m:Nat) (x:Opd):(AOp.lenArr m x).opds=[x]:=rfl
theorem AF (m b:Nat) (z:List Value) (x y:Opd):bT ow (.appendN m b z x y) ev h=((AOp.appendN m b z x y).opds.map ev).flatMap bK:=rfl
theorem Af (m b:Nat) (z:List Value) (x y:Opd):(AOp.appendN m b z x y).opds=[x,y]:=rfl
theorem IW (b:Bool) (x:Opd):bT ow (.isNil b x) ev h=((AOp.isNil b x).opds.map ev).flatMap bK:=rfl
theorem Ep (b:Bool) (x:Opd):(AOp.isNil b x).opds=[x]:=rfl
theorem CB (m b:Nat) (z:List Value) (x y:Opd):bT ow (.append m b z x y) ev h=((AOp.append m b z x y).opds.map ev).flatMap bK:=rfl
theorem BG (m b:Nat) (z:List Value) (x y:Opd):(AOp.append m b z x y).opds=[x,y]:=rfl
theorem Ks (m:Nat) (x y:Opd):bT ow (.copy m x y) ev h=((AOp.copy m x y).opds.map ev).flatMap bK:=rfl
theorem MI (m:Nat) (x y:Opd):(AOp.copy m x y).opds=[x,y]:=rfl
theorem MF (x y:Opd):bT ow (.max2 x y) ev h=((AOp.max2 x y).opds.map ev).flatMap bK:=rfl
theorem KN (x y:Opd):(AOp.max2 x y).opds=[x,y]:=rfl
theorem Mk (x y:Opd):bT ow (.min2 x y) ev h=((AOp.min2 x y).opds.map ev).flatMap bK:=rfl
theorem KG (x y:Opd):(AOp.min2 x y).opds=[x,y]:=rfl
theorem yR (x:Opd):bT ow (.bytesOwn x) ev h=((AOp.bytesOwn x).opds.map ev).flatMap bK:=rfl
theorem yd (x:Opd):(AOp.bytesOwn x).opds=[x]:=rfl
theorem EM (m:Nat) (x:Opd):bT ow (.arrOf m x) ev h=((AOp.arrOf m x).opds.map ev).flatMap bK:=rfl
theorem HD (m:Nat) (x:Opd):(AOp.arrOf m x).opds=[x]:=rfl
theorem NO (x:Opd):oy (some x)=[x]:=rfl
theorem Ol:oy none=[]:=rfl
def fpC:Option (List V×List Blk×List Nat×List Nat)→List Nat
 |some (_,_,ids,bor)=>ids++bor
 |none=>[]
theorem F3 (a:List V) (b:List Blk) (ids bor:List Nat):fpC (some (a,b,ids,bor))=ids++bor:=rfl
theorem Ma (f:FuncId) (args:List Opd):bT ow (.call f args) ev h=fpC (bn ow h f (args.map ev)):=by
 show pA ow h f (args.map ev)=_
 unfold pA fpC
 cases bn ow h f (args.map ev)<;>rfl
def fpD (ow:be) (h:ah) (args:List V):V→List Nat
 | .fn k caps=>fpC (bn ow h k (args++caps))
 |_=>[]
theorem NS (f:Opd) (args:List Opd):bT ow (.dyn f args) ev h=fpD ow h (args.map ev) (ev f):=by
 show (match ev f with
  | .fn k caps=>pA ow h k (args.map ev++caps)
  |_=>[])=_
 cases ev f<;>first|rfl| (simp only [fpD,pA,fpC];cases bn ow h _ _<;>rfl)
theorem OG (args:List V) (k:FuncId) (caps:List V):fpD ow h args (.fn k caps)=fpC (bn ow h k (args++caps)):=rfl
theorem KZ (cs:List V):bK (.agg cs)=cs.flatMap ft:=rfl
theorem OF (f:FuncId) (cs:List V):bK (.fn f cs)=cs.flatMap ft:=rfl
theorem M4 (cs:List V):bK (.tup cs)=cs.flatMap fun| .agg cs=>cs.flatMap ft|v=>ft v:=rfl
theorem Kc (v:Value):bK (.lit v)=[]:=rfl
theorem KU (m:Nat) (r:List (List V)):bK (.imm m r)=[]:=rfl
theorem F0 (r:List V) (o:Nat):bK (.iptr r o)=[]:=rfl
theorem Mo (b i o m:Nat):bK (.ptr b i o m)=[b]:=rfl
theorem JL (b s q:Nat):bK (.sl b s q)=[b]:=rfl
theorem Da:bK .undef=[]:=rfl
theorem Lk (v:Value):ft (.lit v)=[]:=rfl
theorem J9 (m:Nat) (r:List (List V)):ft (.imm m r)=[]:=rfl
theorem Ih (r:List V) (o:Nat):ft (.iptr r o)=[]:=rfl
theorem Ku (b i o m:Nat):ft (.ptr b i o m)=[b]:=rfl
theorem LO (b s q:Nat):ft (.sl b s q)=[b]:=rfl
theorem P3 (f:FuncId) (cs:List V):ft (.fn f cs)=[]:=rfl
theorem CD:ft .undef=[]:=rfl
theorem yY (fp:List Nat) (b:Nat):fF h fp b=br (fp.contains b) (h b) none:=by
 unfold fF
 by_cases hb:b∈fp<;>simp [hb,br]
theorem L3 (rs:List Rec) (i:Nat) (fp wr:List Nat):DM rs i fp wr=br (fp.isEmpty&&wr.isEmpty) rs (rs++[⟨i,fp,wr⟩]):=by
 have h:Rec.loud ⟨i,fp,wr⟩= !(fp.isEmpty&&wr.isEmpty):=rfl
 unfold DM
 cases h1:Rec.loud ⟨i,fp,wr⟩ with
 |true=>
  rw [h1] at h
  have h2:(fp.isEmpty&&wr.isEmpty)=false:=by
   cases hx:fp.isEmpty&&wr.isEmpty with
   |false=>rfl
   |true=>rw [hx] at h;cases h
  rw [h2,b6,List.filter_cons_of_pos h1];rfl
 |false=>
  rw [h1] at h
  have h2:(fp.isEmpty&&wr.isEmpty)=true:=by
   cases hx:fp.isEmpty&&wr.isEmpty with
   |true=>rfl
   |false=>rw [hx] at h;cases h
  rw [h2,bG,List.filter_cons_of_neg (by rw [h1];decide)];simp
theorem CY (deps:List (List Nat)):eP deps []=true:=rfl
theorem zD (deps:List (List Nat)) (p:Rec) (r:List Rec):eP deps (p::r)=(ml deps p r&&eP deps r):=rfl
theorem LS (deps:List (List Nat)) (p:Rec):ml deps p []=true:=rfl
theorem Gp (deps:List (List Nat)) (i j:Nat) (f g w u:List Nat) (r:List Rec):ml deps ⟨i,f,w⟩ (⟨j,g,u⟩::r)=((w.isEmpty&&u.isEmpty||(deps.getD j []).contains i|| !(w.any (fun b=>decide (b∈g)||decide (b∈u))||u.any (fun b=>decide (b∈f))))&&ml deps ⟨i,f,w⟩ r):=rfl
theorem Aq {β:Type} (a d:β) (r:List β):(a::r).getD 0 d=a:=rfl
theorem zW {β:Type} (a d:β) (n:Nat) (r:List β):(a::r).getD (n+1) d=r.getD n d:=rfl
theorem Kd (m:Nat) (cs:List V) (n:Nat):NJ m cs h n=br (Nat.beq cs.length m&&cs.all V.cell) (frO (h n) n ⟨m,true,[cs]⟩ (.ptr n 0 0 1)) none:=rfl
theorem aj (x:Int) (h1: -9223372036854775808≤x) (h2:x<9223372036854775808):IntKind.wrap .i64 x=x:=by
 simp [IntKind.wrap,IntKind.bits,IntKind.signed];omega
theorem Hs (x:Int) (h1:0≤x) (h2:x<18446744073709551616):IntKind.wrap .u64 x=x:=by
 simp [IntKind.wrap,IntKind.bits,IntKind.signed];omega
theorem Mh (x:Int) (h1:0≤x) (h2:x<256):IntKind.wrap .u8 x=x:=by
 simp [IntKind.wrap,IntKind.bits,IntKind.signed];omega
theorem pv (n:Nat):(OfNat.ofNat n:Int)=(n:Int):=rfl
theorem GF (n:Nat) (h:Nat.ble n 9223372036854775807=true):IntKind.wrap .i64 (no_index (OfNat.ofNat n:Int))=OfNat.ofNat n:=by
 have h1:=Nat.le_of_ble_eq_true h
 rw [pv];exact aj _ (by omega) (by omega)
theorem CX (n:Nat) (h:Nat.ble n 18446744073709551615=true):IntKind.wrap .u64 (no_index (OfNat.ofNat n:Int))=OfNat.ofNat n:=by
 have h1:=Nat.le_of_ble_eq_true h
 rw [pv];exact Hs _ (by omega) (by omega)
theorem C8 (n:Nat) (h:Nat.ble n 255=true):IntKind.wrap .u8 (no_index (OfNat.ofNat n:Int))=OfNat.ofNat n:=by
 have h1:=Nat.le_of_ble_eq_true h
 rw [pv];exact Mh _ (by omega) (by omega)
theorem PC (a b:Nat):(a==b)=decide (a=b):=by
 by_cases h:a=b
 ·subst h;simp
 ·rw [decide_eq_false h];simpa using h
theorem OQ:List.range 0=[]:=rfl
theorem zd (m:Nat) (vs:List V):di true h m vs=l9 m [] ((List.range m).flatMap fun b=>A1 (h b)):=rfl
theorem Dh (m:Nat) (vs:List V):di false h m vs=l9 m [] (vs.flatMap bK):=rfl
theorem M5 (m:Nat) (row:List V):A1 (some ⟨m,true,[row]⟩)=row.flatMap bK:=by simp [A1]
theorem Mp (m:Nat) (r:List (List V)):A1 (some ⟨m,false,r⟩)=[]:=rfl
theorem Ob:List.range 5=[0,1,2,3,4]:=rfl
theorem Nr:List.range 6=[0,1,2,3,4,5]:=rfl
theorem NR:List.range 7=[0,1,2,3,4,5,6]:=rfl
theorem N4:List.range 8=[0,1,2,3,4,5,6,7]:=rfl
theorem Dc (m:Nat) (acc:List Nat):l9 m acc []=acc:=rfl
theorem zA (m b:Nat) (acc r:List Nat):l9 m acc (b::r)=l9 m (br (Nat.ble m b) (bL acc b) acc) r:=by
 simp only [l9,oB]
 by_cases h:m≤b<;>simp [h,br]
theorem Eh (n:Nat):Int.toNat (no_index (OfNat.ofNat n:Int))=OfNat.ofNat n:=rfl
end
end Go.AI
