/- Part. -/
import Derived.Test.YtdnkignjanfikaaGreatAiOps9
import Derived.Test.YtdnkignjanfikaaGreatAiOps7N
import Derived.Test.YtdnkignjanfikaaGreatAiMap
set_option linter.unusedVariables false
set_option linter.unusedSimpArgs false
namespace Go.AI
section
def mH:AOp->Bool
 | .call .. | .dyn .. =>true
 |_=>false
section
variable {P:Program} {μ:Mu} {h:b8} {w:World} {f:Nat->V} {a:Act}
theorem sG {α β:Type} {x:Option α} {g:α->β} {y:β} (h:x.map g=some y): ∃z,x=some z/\y=g z:=by
 cases x with
 |none=>cases h
 |some z=>cases h;exact ⟨z,rfl,rfl⟩
theorem Hd {l:List Operand} {x' y':Opd} (h:ln l=some [x',y']): ∃x y,l=[x,y]/\bA x=some x'/\bA y=some y':=by
 match l with
 |[]=>simp [ln] at h
 |[x]=>
  simp only [ln] at h
  split at h
  ·cases h;rename_i e;cases e
  ·cases h
 |[x,y]=>
  simp only [ln] at h
  split at h
  ·rename_i a b i e
   cases h
   split at e
   ·rename_i c d j f;cases e;exact ⟨x,y,rfl,i,j⟩
   ·cases e
  ·cases h
 |x::y::z::r=>
  simp only [ln] at h
  split at h
  ·rename_i a b i e
   cases h
   split at e
   ·rename_i c d j f
    cases e
    split at f
    ·cases f
    ·cases f
   ·cases e
  ·cases h
theorem a8u {l:List Operand} {x':Opd} (h:ln l=some [x']): ∃x,l=[x]/\bA x=some x':=by
 match l with
 |[]=>simp [ln] at h
 |[x]=>
  simp only [ln] at h
  split at h
  ·cases h;rename_i a b d c;exact ⟨x,rfl,d⟩
  ·cases h
 |x::y::r=>
  simp only [ln] at h
  split at h
  ·rename_i a b d c
   cases h
   split at c
   ·cases c
   ·cases c
  ·cases h
theorem a6i [Frame] (H:bB μ h w) (E:gi μ h w f a) {C:ce} {ow:FuncId->List Nat} {o:Oper} {c:Call} {ao:AOp} (m:o.op= .call c) (j:dX P (.call c)=some ao) (hn:mH ao=false) {new:Nat} {v:V} {u:Upd}
 (q:aM C ow ao (Opd.ev f) h new=some (v,u)):ix P o a μ h w v u:=by
 simp only [dX] at j
 split at j
 ·cases j;simp [mH] at hn
 ·split at j
  ·cases j;simp [mH] at hn
  ·cases j
 ·rename_i x' l b
  obtain ⟨x,n,p⟩:=a8u b
  split at j
  ·rename_i t r
   split at j
   ·rename_i hu;cases j;exact b45 H E m l n p r hu q
   ·rename_i hu;cases j;exact b2q H E m l n p r hu q
   ·rename_i hu;cases j;exact a4B H E m l n p r hu q
   ·cases j
  ·cases j
 ·rename_i x' y' l b
  obtain ⟨x,y,n,p,hy⟩:=Hd b
  split at j
  ·rename_i t u' r hu'
   split at j
   ·rename_i e d he hd
    split at j
    ·rename_i i z hi hz
     split at j
     ·cases j
      exact a3u H E m l n p hy r hu' hd (qF he) hi hz q
     ·rename_i hnd
      cases j
      exact a43 H E m l n p hy r hu' hd (fun k hk=>hnd k hk) (qF he) hi hz q
    ·cases j
   ·cases j
  ·cases j
 ·rename_i x' y' l b
  obtain ⟨x,y,n,p,hy⟩:=Hd b
  split at j
  ·rename_i t r
   split at j
   ·rename_i e he
    split at j
    ·rename_i s hsz
     cases j
     exact b1B H E m l n p hy r (qF he) hsz q
    ·cases j
   ·cases j
  ·cases j
 ·rename_i x' y' l b
  obtain ⟨x,y,n,p,hy⟩:=Hd b
  cases j
  exact b1s H E m l n p hy q
 ·rename_i x' y' l b
  obtain ⟨x,y,n,p,hy⟩:=Hd b
  cases j
  exact b2r H E m l n p hy q
 ·cases j
theorem b42 [Frame] (H:bB μ h w) (E:gi μ h w f a) {C:ce} {ow:FuncId->List Nat} {o:Oper} {ao:AOp} (b:dX P o.op=some ao) (hn:mH ao=false) {new:Nat} {v:V} {u:Upd}
 (hs:aM C ow ao (Opd.ev f) h new=some (v,u)):ix P o a μ h w v u:=by
 generalize j:o.op=op at b
 cases op with
 |move x=>
  simp only [dX] at b
  obtain ⟨x',hx,rfl⟩:=sG b
  simp only [aM] at hs;cases hs
  exact b5I H E (.inl j) hx
 |assign x=>
  simp only [dX] at b
  obtain ⟨x',hx,rfl⟩:=sG b
  simp only [aM] at hs;cases hs
  exact b5I H E (.inr j) hx
 |pick c x y=>
  simp only [dX] at b
  split at b
  ·rename_i q p h3;cases b;exact b5p H E j q p h3 hs
  ·cases b
 |alloc t=>
  simp only [dX] at b
  obtain ⟨z,hz,rfl⟩:=sG b
  simp only [aM] at hs
  exact b0Z H j hz hs
 |box t x=>
  simp only [dX] at b
  split at b
  ·rename_i q p;cases b;simp only [aM] at hs;exact b9m H E j p hs
  ·cases b
 |build t ps=>exact a8b H E j b hs
 |buildSlice t len ps=>
  simp only [dX] at b
  split at b
  ·rename_i e he
   split at b
   ·rename_i q p h3
    split at b
    ·split at b
     ·cases b;simp only [aM] at hs;exact Ze H E j (qF he) q p h3 hs
     ·cases b;exact Fs H E j (qF he) q p h3 hs
    ·cases b;exact Fs H E j (qF he) q p h3 hs
   ·cases b
  ·cases b
 |load t x=>
  simp only [dX] at b
  split at b
  ·rename_i q p
   cases b
   simp only [aM] at hs
   split at hs
   ·rename_i hr;cases hs;exact b58 H E j p q hr
   ·cases hs
  ·cases b
 |store t x y=>
  simp only [dX] at b
  split at b
  ·rename_i q p h3;cases b;exact W2 H E j p h3 q hs
  ·cases b
 |nilCheck x=>
  simp only [dX] at b
  obtain ⟨x',hx,rfl⟩:=sG b
  exact WP H E j hx hs
 |binOp op t x y ty=>
  simp only [dX] at b
  split at b
  ·rename_i q p
   split at b
   ·rename_i fs hu
    split at b
    ·rename_i hg
     simp only [aD,hS] at hg
     split at b
     ·rename_i hk;cases b;exact Vm H E j q p hu hg.1 hg.2 hk rfl hs
     ·rename_i hk;cases b;exact Vm H E j q p hu hg.1 hg.2 hk rfl hs
     ·cases b
    ·cases b
   ·rename_i hu
    split at b
    ·cases b;exact a7C H E j q p hu rfl hs
    ·cases b;exact a7C H E j q p hu rfl hs
    ·cases b
   ·cases b;exact a7l H E j q p hs
   ·cases b;exact a7l H E j q p hs
   ·rename_i hu
    split at b
    ·cases b;exact Wf H E j q p hu rfl hs
    ·cases b;exact Wf H E j q p hu rfl hs
    ·cases b
   ·cases b
  ·cases b
 |unOp op t x=>
  simp only [dX] at b
  obtain ⟨x',hx,rfl⟩:=sG b
  exact c4B H E j hx hs
 |convert s d x=>
  simp only [dX] at b
  split at b
  ·rename_i q p h3;cases b;exact b4Q H E j h3 q p hs
  ·rename_i q p h3;cases b;exact b3q H E j h3 q p hs
  ·rename_i q p h3
   split at b
   ·rename_i h4;cases b;exact a0W H E j h3 q p h4 hs
   ·cases b
  ·rename_i q p h3
   split at b
   ·rename_i h4 h5;cases b;exact b0o H E j h3 q p h4 hs
   ·cases b
  ·rename_i q p h3
   split at b
   ·rename_i h4
    split at b
    ·rename_i h5;cases b;exact Xc H E j h3 q p h4 h5 hs
    ·cases b
   ·cases b
  ·cases b
 |sliceToArrayPointer t x=>
  simp only [dX] at b
  split at b
  ·rename_i q p;cases b;exact b0Q H E j p q hs
  ·cases b
 |makeFunc c fst caps=>
  cases c with
  |func g=>
   simp only [dX] at b
   split at b
   ·rename_i q p;cases b;exact Ww H E j q p hs
   ·cases b
  |_=>simp [dX] at b
 |makeSlice t l c=>
  simp only [dX] at b
  split at b
  ·rename_i e he
   split at b
   ·rename_i q p h3 h4;cases b;exact TQ H E j h3 h4 (qF he) q p hs
   ·cases b
  ·cases b
 |slice t x lo hi mx=>
  simp only [dX] at b
  split at b
  ·rename_i q p h3 h4 h5
   cases b
   cases mx with
   |none=>exact Xu H E j p h3 h4 q hs
   |some m=>
    simp only [pb] at h5
    split at h5
    ·cases h5
    ·cases h5
  ·rename_i q p h3 h4 h5
   split at b
   ·rename_i hsz;cases b;exact a8Y H E j p h3 h4 h5 q hsz hs
   ·cases b
  ·cases b
 |fieldAddr t x n=>
  simp only [dX] at b
  split at b
  ·rename_i q p
   split at b
   ·rename_i fd hf
    split at b
    ·rename_i hsz;cases b;exact c1u H E j p q hf hsz hs
    ·cases b
   ·cases b
  ·cases b
 |field t x n=>
  simp only [dX] at b
  split at b
  ·rename_i q p
   split at b
   ·rename_i fd hf
    split at b
    ·rename_i hg;cases b;exact a9X H E j p q hf hg hs
    ·cases b
   ·cases b
  ·cases b
 |indexAddr t x i=>
  simp only [dX] at b
  split at b
  ·rename_i q p h3
   split at b
   ·rename_i hsz;cases b;exact c1h H E j p h3 q hsz hs
   ·cases b
  ·rename_i q p h3
   split at b
   ·rename_i hsz;cases b;exact a4U H E j p h3 q hsz hs
   ·cases b
  ·cases b
 |index t x i=>
  simp only [dX] at b
  split at b
  ·rename_i q p h3;cases b;exact a7Y H E j p h3 q hs
  ·rename_i q p h3
   split at b
   ·rename_i hsz hg;cases b;exact b00 H E j p h3 q hsz hg hs
   ·cases b
  ·cases b
 |makeMap t r=>
  simp only [dX] at b
  split at b
  ·split at b
   ·cases b;exact a9R H j hs
   ·cases b
  ·cases b
 |lookup t m k ok=>
  simp only [dX] at b
  split at b
  ·rename_i q p
   split at b
   ·rename_i hg;cases b;obtain ⟨hg,rfl⟩:=hg;exact a3R H E j q p hg hs
   ·cases b
  ·cases b
 |mapUpdate t m k x=>
  simp only [dX] at b
  split at b
  ·rename_i q p h3
   split at b
   ·rename_i hg;cases b;exact a4t H E j q p h3 hg hs
   ·cases b
  ·cases b
 |mapEntry t m k=>
  simp only [dX] at b
  split at b
  ·rename_i q p
   split at b
   ·rename_i hg;cases b;exact a6m H E j q p hg hs
   ·cases b
  ·cases b
 |entryStore t m k x=>
  simp only [dX] at b
  split at b
  ·rename_i q p h3;cases b;exact a62 H E j q p h3 hs
  ·cases b
 |extract x i=>
  simp only [dX] at b
  split at b
  ·rename_i hx;cases b;exact b9P H E j hx hs
  ·cases b
 |call c=>exact a6i H E j b hn hs
 |_=>simp [dX] at b
end
end
section
theorem dv {α:Type} {l:List α} {i:Nat} {x:α} (h:l[i]? =some x):i<l.length:=by
 rcases cA i l.length with a|a
 ·exact a
 ·rw [bD a] at h;cases h
def bJ (blks:List Blk):b8:=fun i=>blks[i]?
theorem aY.move {F F':Frame} {μ μ':Mu} {h:b8} (h':b8) {w w':World}
 (r: ∀c,c<w.heap.size-> @pd F μ c->c<w'.heap.size/\w'.heap[c]? =w.heap[c]? /\ @pd F' μ' c) {v:V} {x:Value} (u: @aY F μ h w v x) (m:v.cl=true): @aY F' μ' h' w' v x:=by
 induction u with
 |lit v=>exact @aY.lit F' μ' h' w' v
 |agg cs xs y d q ih=>simp [V.cl] at m
 |tup vs xs y q ih=>simp [V.cl] at m
 |ptr b i o n x k hk hn hx hp=>simp [V.cl] at m
 |mp b x k hk hx hp=>simp [V.cl] at m
 |sl b s n x k hk hn hx hp=>simp [V.cl] at m
 |emp a=>exact @aY.emp F' μ' h' w' a
 |imm0 e a cap z=>exact @aY.imm0 F' μ' h' w' e a cap z
 |imm e rows c off cap ys z hr t q hs l d u ih=>
  obtain ⟨h0,h1,h2⟩:=r c q hs
  exact @aY.imm F' μ' h' w' e rows c off cap ys z hr t h0 h2 l (fun i j hi p=>by rw [tA h1];exact d i j hi p)
   (fun i row j v hi p=>ih i row j v hi p ((l row (an hi)).2 v (an p)).1)
 |iptr row o c off ys q hs l d u ih=>
  obtain ⟨h0,h1,h2⟩:=r c q hs
  exact @aY.iptr F' μ' h' w' row o c off ys h0 h2 l (fun j p=>by rw [tA h1];exact d j p) (fun j v p=>ih j v p (l v (an p)).1)
 |fn f caps xs y q ih=>
  cases caps with
  |nil=>exact @aY.fn F' μ' h' w' f [] xs y (fun i v h=>by simp at h)
  |cons a b=>simp [V.cl] at m
 |unk x=>simp [V.cl] at m
inductive zi (h:b8) (ids bor:List Nat):V->V->Prop
 |lit (v:Value):zi h ids bor (.lit v) (.lit v)
 |imm (e:Nat) (r:List (List V)):zi h ids bor (.imm e r) (.imm e r)
 |iptr (r:List V) (o:Nat):zi h ids bor (.iptr r o) (.iptr r o)
 |undef:zi h ids bor .undef .undef
 |fn (f:FuncId):zi h ids bor (.fn f []) (.fn f [])
 |ptr (b i o n p:Nat) (hp:ids[p]? =some b):zi h ids bor (.ptr b i o n) (.ptr p i o n)
 |sl (b s n p:Nat) (hp:ids[p]? =some b):zi h ids bor (.sl b s n) (.sl p s n)
 |mp (b p:Nat) (hp:ids[p]? =some b):zi h ids bor (.mp b) (.mp p)
 |bor (b s n:Nat) (k:Blk) (hb:b∈bor) (hk:h b=some k) (ho:k.op=false) (h0:0<k.esz) (hn:s+n=k.rows.length):zi h ids bor (.sl b s n) (.imm k.esz (k.rows.drop s))
def Ext (h:b8) (ids ids':List Nat):Prop:=(∃e,ids'=ids++e)/\(ids.Nodup->ids'.Nodup)/\ ∀b∈ids',b∈ids\/ ∃k,h b=some k
theorem Ext.refl (h:b8) (ids:List Nat):Ext h ids ids:=⟨⟨[],by simp⟩,id,fun b a=> .inl a⟩
theorem Ext.trans {h:b8} {a b c:List Nat} (x:Ext h a b) (y:Ext h b c):Ext h a c:=by
 obtain ⟨⟨e,rfl⟩,d,f⟩:=x
 obtain ⟨⟨e',rfl⟩,i,j⟩:=y
 exact ⟨⟨e++e',by simp⟩,fun k=>i (d k),fun b l=>(j b l).elim (fun m=>f b m) .inr⟩
theorem Ext.at {h:b8} {a b:List Nat} (x:Ext h a b) {p i:Nat} (c:a[p]? =some i):b[p]? =some i:=by
 obtain ⟨⟨e,rfl⟩,_⟩:=x
 rw [bG (dv c)];exact c
theorem zi.mono {h:b8} {ids ids' bor bor':List Nat} {v v':V} (x:zi h ids bor v v') (hi: ∀(p b:Nat),ids[p]? =some b->ids'[p]? =some b) (c: ∀b∈bor,b∈bor'):zi h ids' bor' v v':=by
 cases x with
 |lit v=>exact .lit v
 |imm e r=>exact .imm e r
 |iptr r o=>exact .iptr r o
 |undef=>exact .undef
 |fn f=>exact .fn f
 |ptr b i o n p a=>exact .ptr b i o n p (hi _ _ a)
 |sl b s n p a=>exact .sl b s n p (hi _ _ a)
 |mp b p a=>exact .mp b p (hi _ _ a)
 |bor b s n k d j l h0 m=>exact .bor b s n k (c b d) j l h0 m
theorem s8 {b:Nat}: ∀{ids:List Nat},b∈ids->ids[kK b ids]? =some b
 |[],h=>by simp at h
 |x::r,h=>by
  simp only [kK]
  by_cases e:x=b
  ·rw [ae e];simp [e]
  ·rw [aa e]
   c:b∈r:=by
    rcases b9.1 h with a|a
    ·exact absurd a.symm e
    ·exact a
   simpa using s8 this
theorem GA {h:b8} {ids:List Nat} {b:Nat} {k:Blk} (i:h b=some k):Ext h ids (gj ids b)/\(gj ids b)[kK b (gj ids b)]? =some b:=by
 unfold gj
 split
 ·rename_i c;exact ⟨Ext.refl _ _,s8 c⟩
 ·rename_i c
  refine ⟨⟨⟨[b],rfl⟩,fun j=> ?_,fun b' d=> ?_⟩,s8 (by simp)⟩
  ·rw [jP]
   exact ⟨j,by simp,fun x l y f=>by simp at f;subst f;intro e;exact c (e▸l)⟩
  ·rcases aX.1 d with a|a
   ·exact .inl a
   ·simp at a;subst a;exact .inr ⟨k,i⟩
theorem DL {h:b8} {own:Bool} {ids ids' bs:List Nat} {v v':V} (c:dw h own ids v=some (v',ids',bs)):Ext h ids ids'/\zi h ids' bs v v'/\(own=true->bs=[])/\ ∀b∈bs, ∃k,h b=some k:=by
 cases v with
 |lit v=>simp [dw] at c;obtain ⟨rfl,rfl,rfl⟩:=c;exact ⟨Ext.refl _ _,.lit v,fun _=>rfl,fun b d=>by simp at d⟩
 |imm e r=>simp [dw] at c;obtain ⟨rfl,rfl,rfl⟩:=c;exact ⟨Ext.refl _ _,.imm e r,fun _=>rfl,fun b d=>by simp at d⟩
 |iptr r o=>simp [dw] at c;obtain ⟨rfl,rfl,rfl⟩:=c;exact ⟨Ext.refl _ _,.iptr r o,fun _=>rfl,fun b d=>by simp at d⟩
 |undef=>simp [dw] at c;obtain ⟨rfl,rfl,rfl⟩:=c;exact ⟨Ext.refl _ _,.undef,fun _=>rfl,fun b d=>by simp at d⟩
 |ptr b i o n=>
  simp only [dw] at c
  split at c
  ·rename_i k j
   split at c
   ·rename_i q
    cases c
    obtain ⟨l,m⟩:=GA (ids:=ids) j
    exact ⟨l,.ptr b i o n _ m,fun _=>rfl,fun b d=>by simp at d⟩
   ·cases c
  ·cases c
 |mp b=>
  simp only [dw] at c
  split at c
  ·rename_i k j
   cases c
   obtain ⟨l,m⟩:=GA (ids:=ids) j
   exact ⟨l,.mp b _ m,fun _=>rfl,fun b d=>by simp at d⟩
  ·cases c
 |sl b s n=>
  simp only [dw] at c
  split at c
  ·rename_i k j
   split at c
   ·rename_i q
    cases own with
    |true=>
     simp at c
     obtain ⟨rfl,rfl,rfl⟩:=c
     obtain ⟨l,m⟩:=GA (ids:=ids) j
     exact ⟨l,.sl b s n _ m,fun _=>rfl,fun b d=>by simp at d⟩
    |false=>
     simp only [bx,if_false] at c
     split at c
     ·rename_i t
      cases c
      exact ⟨Ext.refl _ _,.bor b s n k (by simp) j t.1 t.2 q,fun h=>(by cases h),fun b' p=>by simp at p;subst p;exact ⟨k,j⟩⟩
     ·cases c
   ·cases c
  ·cases c
 |fn f cs=>
  cases cs with
  |nil=>simp [dw] at c;obtain ⟨rfl,rfl,rfl⟩:=c;exact ⟨Ext.refl _ _,.fn f,fun _=>rfl,fun b d=>by simp at d⟩
  |cons a b=>simp [dw] at c
 |_=>simp [dw] at c
theorem pE {h:b8} {own:Bool}: ∀{cs cs':List V} {ids ids' bs:List Nat},eO h own ids cs=some (cs',ids',bs)->
 Ext h ids ids'/\cs'.length=cs.length/\(∀(i:Nat) (v v':V),cs[i]? =some v->cs'[i]? =some v'->zi h ids' bs v v')/\(own=true->bs=[])/\ ∀b∈bs, ∃k,h b=some k
 |[],cs',ids,ids',bs,c=>by
  simp [eO] at c
  obtain ⟨rfl,rfl,rfl⟩:=c
  exact ⟨Ext.refl _ _,rfl,(fun i v v' h=>by simp at h),fun _=>rfl,fun b a=>by simp at a⟩
 |v::r,cs',ids,ids',bs,c=>by
  simp only [eO] at c
  split at c
  ·rename_i v1 ids1 bs1 m
   split at c
   ·rename_i y ids2 bs2 n
    cases c
    obtain ⟨o,a2,a3,q⟩:=DL m
    obtain ⟨j,s,t,w,x⟩:=pE n
    refine ⟨o.trans j,by simp [s],fun i u u' e d=> ?_,fun l=>by rw [a3 l,w l];rfl,fun b a=> ?_⟩
    ·cases i with
     |zero=>simp at e d;subst e;subst d;exact a2.mono (fun p b f=>j.at f) (fun b a=>aX.2 (.inl a))
     |succ i=>exact (t i u u' (by simpa using e) (by simpa using d)).mono (fun p b f=>f) (fun b a=>aX.2 (.inr a))
    ·rcases aX.1 a with a|a
     ·exact q b a
     ·exact x b a
   ·cases c
  ·cases c
inductive yz (h:b8) (ids bor:List Nat):V->V->Prop
 |cell (v v':V) (hv:zi h ids bor v v'):yz h ids bor v v'
 |agg (cs cs':List V) (hl:cs'.length=cs.length) (hc: ∀(i:Nat) (v v':V),cs[i]? =some v->cs'[i]? =some v'->zi h ids bor v v'):yz h ids bor (.agg cs) (.agg cs')
 |fn (f:FuncId) (cs cs':List V) (hl:cs'.length=cs.length) (hc: ∀(i:Nat) (v v':V),cs[i]? =some v->cs'[i]? =some v'->zi h ids bor v v'):yz h ids bor (.fn f cs) (.fn f cs')
theorem yz.mono {h:b8} {ids ids' bor bor':List Nat} {v v':V} (x:yz h ids bor v v') (hi: ∀(p b:Nat),ids[p]? =some b->ids'[p]? =some b) (a: ∀b∈bor,b∈bor'):yz h ids' bor' v v':=by
 cases x with
 |cell v v' k=>exact .cell _ _ (k.mono hi a)
 |agg cs cs' c d=>exact .agg cs cs' c (fun i v v' e j=>(d i v v' e j).mono hi a)
 |fn f cs cs' c d=>exact .fn f cs cs' c (fun i v v' e j=>(d i v v' e j).mono hi a)
theorem Na {h:b8} {own:Bool} {ids ids' bs:List Nat} {v v':V} (i:fm h own ids v=some (v',ids',bs)):Ext h ids ids'/\yz h ids' bs v v'/\ ∀b∈bs, ∃k,h b=some k:=by
 l other:dw h own ids v=some (v',ids',bs)->Ext h ids ids'/\yz h ids' bs v v'/\ ∀b∈bs, ∃k,h b=some k:=fun j=>by
   obtain ⟨a,b,c,d⟩:=DL j
   exact ⟨a,.cell _ _ b,d⟩
 cases v with
 |agg cs=>
  simp only [fm] at i
  split at i
  ·rename_i j;cases i
   obtain ⟨a,b,c,d,e⟩:=pE j
   exact ⟨a,.agg _ _ b c,e⟩
  ·cases i
 |fn f cs=>
  simp only [fm] at i
  split at i
  ·rename_i j;cases i
   obtain ⟨a,b,c,d,e⟩:=pE j
   exact ⟨a,.fn f _ _ b c,e⟩
  ·cases i
 |_=>exact other i
theorem Kz {h:b8} {owns:List Nat}: ∀{vs vs':List V} {j:Nat} {ids ids' bs:List Nat},jK h owns j ids vs=some (vs',ids',bs)->
 Ext h ids ids'/\vs'.length=vs.length/\(∀(i:Nat) (v v':V),vs[i]? =some v->vs'[i]? =some v'->yz h ids' bs v v')/\ ∀b∈bs, ∃k,h b=some k
 |[],vs',j,ids,ids',bs,c=>by
  simp [jK] at c
  obtain ⟨rfl,rfl,rfl⟩:=c
  exact ⟨Ext.refl _ _,rfl,(fun i v v' h=>by simp at h),fun b a=>by simp at a⟩
 |v::r,vs',j,ids,ids',bs,c=>by
  simp only [jK] at c
  split at c
  ·rename_i v1 ids1 bs1 m
   split at c
   ·rename_i x ids2 bs2 n
    cases c
    obtain ⟨o,a2,q⟩:=Na m
    obtain ⟨l,s,t,w⟩:=Kz n
    refine ⟨o.trans l,by simp [s],fun i u u' e d=> ?_,fun b a=> ?_⟩
    ·cases i with
     |zero=>simp at e d;subst e;subst d;exact a2.mono (fun p b f=>l.at f) (fun b a=>aX.2 (.inl a))
     |succ i=>exact (t i u u' (by simpa using e) (by simpa using d)).mono (fun p b f=>f) (fun b a=>aX.2 (.inr a))
    ·rcases aX.1 a with a|a
     ·exact q b a
     ·exact w b a
   ·cases c
  ·cases c
theorem a6k {h:b8} {ids ids' bs:List Nat} {v v':V} (a:fm h true ids v=some (v',ids',bs)):bs=[]:=by
 c other:dw h true ids v=some (v',ids',bs)->bs=[]:=fun b=>(DL b).2.2.1 rfl
 cases v with
 |agg cs=>
  simp only [fm] at a
  split at a
  ·rename_i b;cases a;exact (pE b).2.2.2.1 rfl
  ·cases a
 |fn f cs=>
  simp only [fm] at a
  split at a
  ·rename_i b;cases a;exact (pE b).2.2.2.1 rfl
  ·cases a
 |_=>exact other a
theorem QA {h:b8}: ∀{cs cs':List V} {ids ids':List Nat},re h ids cs=some (cs',ids')->
 Ext h ids ids'/\cs'.length=cs.length/\ ∀(i:Nat) (v v':V),cs[i]? =some v->cs'[i]? =some v'->yz h ids' [] v v'
 |[],cs',ids,ids',a=>by
  simp [re] at a
  obtain ⟨rfl,rfl⟩:=a
  exact ⟨Ext.refl _ _,rfl,fun i v v' h=>by simp at h⟩
 |v::r,cs',ids,ids',a=>by
  simp only [re] at a
  split at a
  ·rename_i v1 ids1 bs1 e
   split at a
   ·rename_i q ids2 j
    cases a
    obtain ⟨k,a2,_⟩:=Na e
    rw [a6k e] at a2
    obtain ⟨f,l,m⟩:=QA j
    refine ⟨k.trans f,by simp [l],fun i u u' d c=> ?_⟩
    cases i with
    |zero=>simp at d c;subst d;subst c;exact a2.mono (fun p b n=>f.at n) (fun b o=>o)
    |succ i=>exact m i u u' (by simpa using d) (by simpa using c)
   ·cases a
  ·cases a
theorem KS {h:b8}: ∀{rs rs':List (List V)} {ids ids':List Nat},oL h ids rs=some (rs',ids')->
 Ext h ids ids'/\rs'.length=rs.length/\ ∀(i:Nat) (row row':List V),rs[i]? =some row->rs'[i]? =some row'->row'.length=row.length/\ ∀(j:Nat) (v v':V),row[j]? =some v->row'[j]? =some v'->yz h ids' [] v v'
 |[],rs',ids,ids',a=>by
  simp [oL] at a
  obtain ⟨rfl,rfl⟩:=a
  exact ⟨Ext.refl _ _,rfl,fun i v v' h=>by simp at h⟩
 |x::r,rs',ids,ids',a=>by
  simp only [oL] at a
  split at a
  ·rename_i s ids1 d
   split at a
   ·rename_i t ids2 e
    cases a
    obtain ⟨l,a2,a3⟩:=QA d
    obtain ⟨k,m,n⟩:=KS e
    refine ⟨l.trans k,by simp [m],fun i u u' f c=> ?_⟩
    cases i with
    |zero=>simp at f c;subst f;subst c;exact ⟨a2,fun j v v' d e=>(a3 j v v' d e).mono (fun p b o=>k.at o) (fun b q=>q)⟩
    |succ i=>exact n i u u' (by simpa using f) (by simpa using c)
   ·cases a
  ·cases a
structure a0N (h:b8) (ids bor:List Nat) (k k0:Blk):Prop where
 esz:k0.esz=k.esz
 op:k0.op=k.op
 len:k0.rows.length=k.rows.length
 same:k.op=false->k0=k
 row:k.op=true-> ∀(i:Nat) (row row':List V),k.rows[i]? =some row->k0.rows[i]? =some row'->row'.length=row.length/\ ∀(j:Nat) (v v':V),row[j]? =some v->row'[j]? =some v'->yz h ids bor v v'
theorem a0N.mono {h:b8} {ids ids' bor bor':List Nat} {k a:Blk} (x:a0N h ids bor k a) (hi: ∀(p b:Nat),ids[p]? =some b->ids'[p]? =some b) (f: ∀b∈bor,b∈bor'):a0N h ids' bor' k a:=
 ⟨x.esz,x.op,x.len,x.same,fun c i row row' d e=>⟨(x.row c i row row' d e).1,fun j v v' l m=>((x.row c i row row' d e).2 j v v' l m).mono hi f⟩⟩
theorem Dk {h:b8}: ∀{fuel pos:Nat} {ids ids':List Nat} {blks:List Blk},fM h fuel pos ids=some (blks,ids')->pos<=ids.length->
 Ext h ids ids'/\ids'.length=pos+blks.length/\ ∀(i b:Nat),ids'[pos+i]? =some b-> ∃k t,h b=some k/\blks[i]? =some t/\a0N h ids' [] k t
 |0,pos,ids,ids',blks,c,m=>by simp [fM] at c
 |fuel+1,pos,ids,ids',blks,c,m=>by
  simp only [fM] at c
  split at c
  ·rename_i x
   cases c
   a:ids.length<=pos:=by simpa using x
   exact ⟨Ext.refl _ _,by simp;omega,fun i b d=>by a:=dv d;omega⟩
  ·rename_i b0 hb0
   a y:=dv hb0
   split at c
   ·cases c
   ·rename_i k u
    split at c
    ·rename_i n
     split at c
     ·rename_i r ids1 f
      cases c
      obtain ⟨l,a2,a3⟩:=Dk f (by omega)
      refine ⟨l,by simp [a2];omega,fun i b d=> ?_⟩
      cases i with
      |zero=>
       a:=l.at hb0
       simp only [cQ] at d
       rw [this] at d;cases d
       exact ⟨k,k,u,by simp,⟨rfl,rfl,rfl,(fun _=>rfl),(fun f=>by rw [n] at f;cases f)⟩⟩
      |succ i=>simpa using a3 i b (by rw [<-d];congr 1;omega)
     ·cases c
    ·rename_i n
     a o:k.op=true:=by cases q:k.op with|true=>rfl|false=>exact absurd q n
     split at c
     ·cases c
     ·rename_i rows ids1 f
      split at c
      ·rename_i r ids2 z
       cases c
       obtain ⟨s,b2,b3⟩:=KS f
       a w:ids.length<=ids1.length:=by obtain ⟨⟨e,rfl⟩,_⟩:=s;simp
       obtain ⟨l,a2,a3⟩:=Dk z (by omega)
       refine ⟨s.trans l,by simp [a2];omega,fun i b d=> ?_⟩
       cases i with
       |zero=>
        a:=l.at (s.at hb0)
        simp only [cQ] at d
        rw [this] at d;cases d
        refine ⟨k,{ k with rows:=rows },u,by simp,⟨rfl,rfl,b2,(fun f=>by rw [o] at f;cases f),fun _ i row row' g1 g2=> ?_⟩⟩
        obtain ⟨c1,c2⟩:=b3 i row row' g1 g2
        exact ⟨c1,fun j v v' g3 g4=>(c2 j v v' g3 g4).mono (fun p b m=>l.at m) (fun b d=>d)⟩
       |succ i=>simpa using a3 i b (by rw [<-d];congr 1;omega)
      ·cases c
end
section
section
variable {G:Frame} {μ μ':Mu} {h h':b8} {w w':World}
theorem Mh (C: @Chg G μ h w μ' h' w'): @n0 G μ w μ' w':= @Chg.ev G _ _ _ _ _ _ C
theorem b5K (C: @Chg G μ h w μ' h' w'):Xz μ h w μ' h' w':= @Chg.refs G _ _ _ _ _ _ C
theorem c64 (C: @n0 G μ w μ' w'):w'.os=w.os:= @n0.os G _ _ _ _ C
theorem a5Z (C: @n0 G μ w μ' w'):w'.tape=w.tape:= @n0.tape G _ _ _ _ C
theorem b6f (C: @n0 G μ w μ' w'):w'.output=w.output:= @n0.output G _ _ _ _ C
theorem a7f (C: @n0 G μ w μ' w'):w.drawn<=w'.drawn:= @n0.drawn G _ _ _ _ C
theorem XY (C: @n0 G μ w μ' w'):w.heap.size<=w'.heap.size:= @n0.size G _ _ _ _ C
theorem a5H (C: @n0 G μ w μ' w'): ∀c,c<w.heap.size-> @pd G μ c->w'.heap[c]? =w.heap[c]? /\ @pd G μ' c:= @n0.keep G _ _ _ _ C
theorem Xw (C: @n0 G μ w μ' w'): ∀c,G.fr c->w'.heap[c]? =w.heap[c]? := @n0.keepF G _ _ _ _ C
theorem c6f (H: @bB G μ h w): ∀b b' c,μ b=some c->μ b'=some c->b=b':= @bB.inj G _ _ _ H
theorem c2K (H: @bB G μ h w): ∀b c,μ b=some c-> ∃k,h b=some k/\k.lies:= @bB.dom G _ _ _ H
theorem b99 (H: @bB G μ h w): ∀b k,h b=some k-> @c8b G μ h w b k:= @bB.blk G _ _ _ H
theorem a6G (H: @bB G μ h w): ∀b k,h b=some k-> ∀row∈k.rows,(0<k.esz->row.length=k.esz)/\ ∀v∈row,v.cell=true/\(k.op=false->v.cl=true):= @bB.rows G _ _ _ H
theorem WL (H: @bB G μ h w): ∀b c,μ b=some c-> ¬G.fr c:= @bB.frame G _ _ _ H
theorem c1S (H: @bB G μ h w): ∀c,G.fr c->c<w.heap.size:= @bB.frlt G _ _ _ H
end
theorem ep {α:Type} {l:List α} {i:Nat} (h:i<l.length): ∃x,l[i]? =some x:=⟨l[i],aq h⟩
structure Way (h:b8) (ids bor:List Nat) (blks:List Blk):Prop where
 nd:ids.Nodup
 len:ids.length=blks.length
 at_: ∀(i b:Nat),ids[i]? =some b-> ∃k k0,h b=some k/\blks[i]? =some k0/\a0N h ids bor k k0
 dis: ∀b∈bor,b∉ids
 has: ∀b∈bor, ∃k,h b=some k
@[reducible] def oD (F:Frame) (μ:Mu) (ids bor:List Nat):Frame:=⟨fun c=>F.fr c\/ ∃b,μ b=some c/\b∉ids/\b∉bor⟩
def nM (μ:Mu) (ids:List Nat):Mu:=fun i=>(ids[i]?).bind μ
section
variable {F:Frame} {μ:Mu} {h:b8} {w:World} {ids bor:List Nat} {blks:List Blk}
theorem BN {i c:Nat} (hi:nM μ ids i=some c): ∃b,ids[i]? =some b/\μ b=some c:=by
 unfold nM at hi
 cases a:ids[i]? with
 |none=>rw [a] at hi;cases hi
 |some b=>rw [a] at hi;exact ⟨b,rfl,hi⟩
theorem GT (W:Way h ids bor blks) {c:Nat} (k: ¬F.fr c) (j: ∀b,b∉bor->μ b≠some c): @pd (oD F μ ids bor) (nM μ ids) c:=by
 refine ⟨fun i hi=> ?_,fun d=> ?_⟩
 ·obtain ⟨b,e,l⟩:=BN hi
  exact j b (fun a=>W.dis b a (an e)) l
 ·rcases d with d|⟨b,e,_,f⟩
  ·exact k d
  ·exact j b f e
theorem LH (W:Way h ids bor blks) {v:V} {x:Value} (e: @aY F μ h w v x) (a:v.cl=true): @aY (oD F μ ids bor) (nM μ ids) (bJ blks) w v x:=
 aY.move (F:=F) _ (fun c f d=>⟨f,rfl,GT W d.2 (fun b _=>d.1 b)⟩) e a
theorem Xs (W:Way h ids bor blks) (H: @bB F μ h w) {v v':V} {x:Value} (hl:zi h ids bor v v') (j: @aY F μ h w v x): @aY (oD F μ ids bor) (nM μ ids) (bJ blks) w v' x:=by
 cases hl with
 |lit y=>exact LH W j rfl
 |imm e r=>exact LH W j rfl
 |iptr r o=>exact LH W j rfl
 |undef=>exact @aY.unk (oD F μ ids bor) (nM μ ids) (bJ blks) w x
 |fn f=>exact LH W j rfl
 |ptr b i o n p l=>
  cases j with
  |ptr _ _ _ _ _ k t u hx z hd=>
   obtain ⟨k1,k0,d,h2,L⟩:=W.at_ p b l
   rw [t] at d;cases d
   refine @aY.ptr (oD F μ ids bor) (nM μ ids) (bJ blks) w p i o n x k0 h2 (by rw [L.len,L.esz];exact u) hx (fun m g2 g3=> ?_) (fun g=>by rw [L.op];exact hd (by rw [<-L.esz];exact g))
   rw [L.esz] at m ⊢
   obtain ⟨c,c1,c2⟩:=z m (by rw [<-L.len];exact g2) g3
   exact ⟨c,by simp [nM,l,c1],c2⟩
 |sl b s n p l=>
  cases j with
  |sl _ _ _ _ k t u hx z=>
   obtain ⟨k1,k0,d,h2,L⟩:=W.at_ p b l
   rw [t] at d;cases d
   refine @aY.sl (oD F μ ids bor) (nM μ ids) (bJ blks) w p s n x k0 h2 (by rw [L.len,L.esz];exact u) hx (fun m g2=> ?_)
   rw [L.esz] at m ⊢
   obtain ⟨a,cap,c1,c2⟩:=z m (by rw [<-L.len];exact g2)
   refine ⟨a,cap,c1, ?_⟩
   rcases c2 with c2|⟨c,d1,d2,d3,d4⟩
   ·exact .inl c2
   ·exact .inr ⟨c,by simp [nM,l,d1],d2,d3,d4⟩
 |mp b p l=>
  cases j with
  |mp _ _ k t hx hmm=>
   obtain ⟨k1,k0,d,h2,L⟩:=W.at_ p b l
   rw [t] at d;cases d
   refine @aY.mp (oD F μ ids bor) (nM μ ids) (bJ blks) w p x k0 h2 hx (fun m g2=> ?_)
   rw [L.esz] at m
   rw [L.op] at g2
   obtain ⟨c,c1,c2⟩:=hmm m g2
   exact ⟨c,by simp [nM,l,c1],c2⟩
 |bor b s n k hb t ho h0 hn=>
  q d:= @Lu μ h w F H b s n k x t ho h0 hn j (cE μ b none) h (by simp [cE]) (fun b' c hm=>by
    unfold cE at hm
    split at hm
    ·cases hm
    ·exact hm)
  refine aY.move (F:=F) _ (fun c hc hs=>⟨hc,rfl,GT W hs.2 (fun b' hb'=> ?_)⟩) d rfl
  q hne:b'≠b:=fun e=>hb' (e▸hb)
  q:=hs.1 b'
  simpa [cE,hne] using this
theorem zi.cellOf {v v':V} (a:zi h ids bor v v') (b:v.cell=true):v'.cell=true:=by
 cases a<;>first|exact b|rfl
theorem XI (W:Way h ids bor blks) (H: @bB F μ h w) {v v':V} {x:Value} (e:yz h ids bor v v') (k: @aY F μ h w v x): @aY (oD F μ ids bor) (nM μ ids) (bJ blks) w v' x:=by
 cases e with
 |cell _ _ e=>exact Xs W H e k
 |agg cs cs' b c=>
  cases k with
  |agg _ xs e j l=>
   refine @aY.agg (oD F μ ids bor) (nM μ ids) (bJ blks) w cs' xs (by rw [e,b]) (fun v k=> ?_) (fun i v hi=> ?_)
   ·obtain ⟨i,hi,rfl⟩:=bp k
    a d:cs[i]? =some cs[i]:=aq (by omega)
    exact (c i _ _ d (aq hi)).cellOf (j _ (an d))
   ·a m:=dv hi
    a d:cs[i]? =some cs[i]:=aq (by omega)
    exact Xs W H (c i _ _ d hi) (l i _ d)
 |fn f cs cs' b c=>
  cases k with
  |fn _ _ xs e l=>
   refine @aY.fn (oD F μ ids bor) (nM μ ids) (bJ blks) w f cs' xs (by rw [e,b]) (fun i v hi=> ?_)
   a m:=dv hi
   a d:cs[i]? =some cs[i]:=aq (by omega)
   exact Xs W H (c i _ _ d hi) (l i _ d)
theorem yz.cellOf {v v':V} (b:yz h ids bor v v') (a:v.cell=true):v'.cell=true:=by
 cases b with
 |cell _ _ h=>exact h.cellOf a
 |agg=>simp [V.cell] at a
 |fn=>rfl
theorem Way.back (W:Way h ids bor blks) {i:Nat} {c:Blk} (e:bJ blks i=some c): ∃b k,ids[i]? =some b/\h b=some k/\a0N h ids bor k c:=by
 a d:=dv e
 obtain ⟨b,hi⟩:=ep (l:=ids) (i:=i) (by rw [W.len];exact d)
 obtain ⟨k,m,f,j,L⟩:=W.at_ i _ hi
 a:blks[i]? =some c:=e
 rw [j] at this;cases this
 exact ⟨_,k,hi,f,L⟩
theorem ZI (W:Way h ids bor blks) (H: @bB F μ h w): @bB (oD F μ ids bor) (nM μ ids) (bJ blks) w:=by
 refine @bB.mk (oD F μ ids bor) (nM μ ids) (bJ blks) w (fun i i' c e q=> ?_) (fun i c e=> ?_) (fun i p hk=> ?_) (fun i p hk=> ?_) (fun i c e=> ?_) (fun c hc=> ?_)
 ·obtain ⟨b,m,y⟩:=BN e
  obtain ⟨b',s,hm'⟩:=BN q
  a:= @bB.inj F μ h w H _ _ _ y hm'
  subst this
  exact (List.getElem?_inj (dv m) W.nd).1 (by rw [m,s])
 ·obtain ⟨b,m,y⟩:=BN e
  obtain ⟨k,p,g1,g2,L⟩:=W.at_ i b m
  obtain ⟨k',hk',h0⟩:= @bB.dom F μ h w H b c y
  rw [g1] at hk';cases hk'
  exact ⟨p,g2,by unfold Blk.lies;rw [L.esz,L.op];exact h0⟩
 ·obtain ⟨b,k,m,o,L⟩:=W.back hk
  rcases @bB.blk F μ h w H b k o with ⟨g1,g2,g3⟩|⟨g0,c,arr,t,lo,hi,gm,gh,gf,gl,gv⟩|⟨g0,go,c,gm,gb⟩
  ·left
   rw [L.same g2]
   exact ⟨g1,g2,by simp [nM,m,g3]⟩
  rotate_left
  ·right;right
   refine ⟨by rw [L.esz];exact g0,by rw [L.op];exact go,c,by simp [nM,m,gm], ?_⟩
   a:p.rows=k.rows:=by
    refine List.ext_getElem L.len (fun f e q=> ?_)
    a e1:p.rows[f]? =some p.rows[f]:=aq e
    a e2:k.rows[f]? =some k.rows[f]:=aq q
    obtain ⟨r1,r2⟩:=L.row go f _ _ e2 e1
    refine List.ext_getElem r1 (fun j x r=> ?_)
    a h5:=r2 j _ _ (aq r) (aq x)
    obtain ⟨n,hn⟩:=gb.lit (aZ q) (aZ r)
    rw [hn] at h5
    cases h5 with
    |cell _ _ h6=>generalize p.rows[f][j]=u at h6;cases h6;exact hn.symm
   rw [this];exact gb
  ·right;left
   refine ⟨by rw [L.esz];exact g0,c,arr,t,lo,hi,by simp [nM,m,gm],gh,gf,by rw [L.len,L.esz];exact gl,fun f row' j v' e q=> ?_⟩
   rw [L.esz]
   cases d:k.op with
   |false=>
    rw [L.same d] at e
    exact LH W (gv f row' j v' e q) ((@bB.rows F μ h w H b k o row' (an e)).2 v' (an q)|>.2 d)
   |true=>
    obtain ⟨row,x⟩:=ep (l:=k.rows) (i:=f) (by rw [<-L.len];exact dv e)
    obtain ⟨r1,r2⟩:=L.row d f _ _ x e
    obtain ⟨v,r⟩:=ep (l:=row) (i:=j) (by rw [<-r1];exact dv q)
    exact XI W H (r2 j _ _ r q) (gv f row j v x r)
 ·obtain ⟨b,k,m,o,L⟩:=W.back hk
  intro row' hrow
  obtain ⟨f,hi2,rfl⟩:=bp hrow
  a e:p.rows[f]? =some p.rows[f]:=aq hi2
  cases d:k.op with
  |false=>
   a:=L.same d
   subst this
   a z:= @bB.rows F μ h w H b p o _ (an e)
   exact ⟨z.1,fun v hv=>⟨(z.2 v hv).1,fun _=>(z.2 v hv).2 d⟩⟩
  |true=>
   obtain ⟨row,x⟩:=ep (l:=k.rows) (i:=f) (by rw [<-L.len];exact hi2)
   obtain ⟨r1,r2⟩:=L.row d f _ _ x e
   a z:= @bB.rows F μ h w H b k o _ (an x)
   refine ⟨fun h0=>by rw [L.esz] at h0;rw [r1,z.1 h0,L.esz],fun v hv=> ?_⟩
   obtain ⟨j,hj,rfl⟩:=bp hv
   obtain ⟨v,r⟩:=ep (l:=row) (i:=j) (by omega)
   refine ⟨(r2 j _ _ r (aq hj)).cellOf (z.2 _ (an r)).1,fun h5=> ?_⟩
   rw [L.op,d] at h5;cases h5
 ·obtain ⟨b,m,y⟩:=BN e
  intro hf
  rcases hf with hf|⟨b',s,hn,_⟩
  ·exact @bB.frame F μ h w H b c y hf
  ·a:= @bB.inj F μ h w H _ _ _ y s
   subst this
   exact hn (an m)
 ·rcases hc with hf|⟨b,m,_⟩
  ·exact @bB.frlt F μ h w H c hf
  ·exact @bB.lt F μ h w H b c m
theorem b6y {owns:FuncId->List Nat} {f:FuncId} {args args':List V} (a:fi owns h f args=some (args',blks,ids,bor)):
 Way h ids bor blks/\args'.length=args.length/\ ∀(i:Nat) (v v':V),args[i]? =some v->args'[i]? =some v'->yz h ids bor v v':=by
 unfold fi at a
 split at a
 ·cases a
 ·rename_i z ids0 bor1 m
  split at a
  ·cases a
  ·rename_i bl ids1 n
   split at a
   ·cases a
   ·rename_i d
    cases a
    obtain ⟨o,q,r,s⟩:=Kz m
    obtain ⟨l,t,u⟩:=Dk n (qC _)
    refine ⟨⟨l.2.1 (o.2.1 jC),by rw [t];omega,(fun i b c=>by obtain ⟨k,w,e,j,x⟩:=u i b (by simpa using c);exact ⟨k,w,e,j,x.mono (fun p b a=>a) (fun b c=>by simp at c)⟩),fun b c y=>d ?_,s⟩,q,fun i v v' e j=>(r i v v' e j).mono (fun p b a=>l.at a) (fun b c=>c)⟩
    rw [iq]
    exact ⟨b,c,by simpa using y⟩
end
end
end Go.AI
