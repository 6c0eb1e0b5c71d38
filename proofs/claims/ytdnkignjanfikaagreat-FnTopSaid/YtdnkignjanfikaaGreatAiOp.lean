/- Part. -/
import Derived.Test.YtdnkignjanfikaaGreatAiOps9
import Derived.Test.YtdnkignjanfikaaGreatAiOps7N
import Derived.Test.YtdnkignjanfikaaGreatAiMap
set_option linter.unusedVariables false
set_option linter.unusedSimpArgs false
namespace Go.AI
section
def oW:AOp->Bool
 | .call .. | .dyn .. =>true
 |_=>false
section
variable {P:Program} {μ:Mu} {h:ba} {w:World} {f:Nat->V} {a:Act}
theorem vo {α β:Type} {x:Option α} {g:α->β} {y:β} (h:x.map g=some y): ∃z,x=some z/\y=g z:=by
 cases x with
 |none=>cases h
 |some z=>cases h;exact ⟨z,rfl,rfl⟩
theorem HE {l:List Operand} {x' y':Opd} (h:nG l=some [x',y']): ∃x y,l=[x,y]/\bF x=some x'/\bF y=some y':=by
 match l with
 |[]=>simp [nG] at h
 |[x]=>
  simp only [nG] at h
  split at h
  ·cases h;rename_i e;cases e
  ·cases h
 |[x,y]=>
  simp only [nG] at h
  split at h
  ·rename_i a b i e
   cases h
   split at e
   ·rename_i c d j f;cases e;exact ⟨x,y,rfl,i,j⟩
   ·cases e
  ·cases h
 |x::y::z::r=>
  simp only [nG] at h
  split at h
  ·rename_i a b i e
   cases h
   split at e
   ·rename_i c d j f
    cases e
    split at f
    ·cases f
    ·cases f
   ·cases e
  ·cases h
theorem a9c {l:List Operand} {x':Opd} (h:nG l=some [x']): ∃x,l=[x]/\bF x=some x':=by
 match l with
 |[]=>simp [nG] at h
 |[x]=>
  simp only [nG] at h
  split at h
  ·cases h;rename_i a b d c;exact ⟨x,rfl,d⟩
  ·cases h
 |x::y::r=>
  simp only [nG] at h
  split at h
  ·rename_i a b d c
   cases h
   split at c
   ·cases c
   ·cases c
  ·cases h
theorem a2e [Frame] (H:bG μ h w) (E:ic μ h w f a) {C:cr} {ow:FuncId->List Nat} {o:Oper} {c:Call} {ao:AOp} (l:o.op= .call c) (hc:eW P (.call c)=some ao) (hn:oW ao=false) {new:Nat} {v:V} {u:Upd}
 (p:aK C ow ao (Opd.ev f) h new=some (v,u)):jv P o a μ h w v u:=by
 simp only [eW] at hc
 split at hc
 ·cases hc;simp [oW] at hn
 ·split at hc
  ·cases hc;simp [oW] at hn
  ·cases hc
 ·rename_i x' j b
  obtain ⟨x,m,n⟩:=a9c b
  split at hc
  ·rename_i t q
   split at hc
   ·rename_i hu;cases hc;exact b5f H E l j m n q hu p
   ·rename_i hu;cases hc;exact b4L H E l j m n q hu p
   ·rename_i hu;cases hc;exact a2U H E l j m n q hu p
   ·cases hc
  ·cases hc
 ·rename_i x' y' j b
  obtain ⟨x,y,m,n,r⟩:=HE b
  split at hc
  ·rename_i t u' q hu'
   split at hc
   ·rename_i e d he hd
    split at hc
    ·rename_i i z hi hz
     split at hc
     ·cases hc
      exact a09 H E l j m n r q hu' hd (ui he) hi hz p
     ·rename_i hnd
      cases hc
      exact a43 H E l j m n r q hu' hd (fun k hk=>hnd k hk) (ui he) hi hz p
    ·cases hc
   ·cases hc
  ·cases hc
 ·rename_i x' y' j b
  obtain ⟨x,y,m,n,r⟩:=HE b
  split at hc
  ·rename_i t q
   split at hc
   ·rename_i e he
    split at hc
    ·rename_i s hsz
     cases hc
     exact b0I H E l j m n r q (ui he) hsz p
    ·cases hc
   ·cases hc
  ·cases hc
 ·rename_i x' y' j b
  obtain ⟨x,y,m,n,r⟩:=HE b
  cases hc
  exact b1p H E l j m n r p
 ·rename_i x' y' j b
  obtain ⟨x,y,m,n,r⟩:=HE b
  cases hc
  exact b06 H E l j m n r p
 ·cases hc
theorem b3t [Frame] (H:bG μ h w) (E:ic μ h w f a) {C:cr} {ow:FuncId->List Nat} {o:Oper} {ao:AOp} (hc:eW P o.op=some ao) (hn:oW ao=false) {new:Nat} {v:V} {u:Upd}
 (q:aK C ow ao (Opd.ev f) h new=some (v,u)):jv P o a μ h w v u:=by
 generalize b:o.op=op at hc
 cases op with
 |move x=>
  simp only [eW] at hc
  obtain ⟨x',hx,rfl⟩:=vo hc
  simp only [aK] at q;cases q
  exact b1C H E (.inl b) hx
 |assign x=>
  simp only [eW] at hc
  obtain ⟨x',hx,rfl⟩:=vo hc
  simp only [aK] at q;cases q
  exact b1C H E (.inr b) hx
 |pick c x y=>
  simp only [eW] at hc
  split at hc
  ·rename_i p j h3;cases hc;exact b5q H E b p j h3 q
  ·cases hc
 |alloc t=>
  simp only [eW] at hc
  obtain ⟨z,hz,rfl⟩:=vo hc
  simp only [aK] at q
  exact a6w H b hz q
 |box t x=>
  simp only [eW] at hc
  split at hc
  ·rename_i p j;cases hc;simp only [aK] at q;exact b8Q H E b j q
  ·cases hc
 |build t ps=>exact a71 H E b hc q
 |buildSlice t len ps=>
  simp only [eW] at hc
  split at hc
  ·rename_i e he
   split at hc
   ·rename_i p j h3
    split at hc
    ·split at hc
     ·cases hc;simp only [aK] at q;exact Xl H E b (ui he) p j h3 q
     ·cases hc;exact Gm H E b (ui he) p j h3 q
    ·cases hc;exact Gm H E b (ui he) p j h3 q
   ·cases hc
  ·cases hc
 |load t x=>
  simp only [eW] at hc
  split at hc
  ·rename_i p j
   cases hc
   simp only [aK] at q
   split at q
   ·rename_i hr;cases q;exact b1O H E b j p hr
   ·cases q
  ·cases hc
 |store t x y=>
  simp only [eW] at hc
  split at hc
  ·rename_i p j h3;cases hc;exact Vp H E b j h3 p q
  ·cases hc
 |nilCheck x=>
  simp only [eW] at hc
  obtain ⟨x',hx,rfl⟩:=vo hc
  exact Y8 H E b hx q
 |binOp op t x y ty=>
  simp only [eW] at hc
  split at hc
  ·rename_i p j
   split at hc
   ·rename_i fs hu
    split at hc
    ·rename_i hg
     simp only [aB,j3] at hg
     split at hc
     ·rename_i hk;cases hc;exact UM H E b p j hu hg.1 hg.2 hk rfl q
     ·rename_i hk;cases hc;exact UM H E b p j hu hg.1 hg.2 hk rfl q
     ·cases hc
    ·cases hc
   ·rename_i hu
    split at hc
    ·cases hc;exact a6j H E b p j hu rfl q
    ·cases hc;exact a6j H E b p j hu rfl q
    ·cases hc
   ·cases hc;exact a5M H E b p j q
   ·cases hc;exact a5M H E b p j q
   ·rename_i hu
    split at hc
    ·cases hc;exact UH H E b p j hu rfl q
    ·cases hc;exact UH H E b p j hu rfl q
    ·cases hc
   ·cases hc
  ·cases hc
 |unOp op t x=>
  simp only [eW] at hc
  obtain ⟨x',hx,rfl⟩:=vo hc
  exact c3J H E b hx q
 |convert s d x=>
  simp only [eW] at hc
  split at hc
  ·rename_i p j h3;cases hc;exact b3B H E b h3 p j q
  ·rename_i p j h3;cases hc;exact b1n H E b h3 p j q
  ·rename_i p j h3
   split at hc
   ·rename_i h4;cases hc;exact a0g H E b h3 p j h4 q
   ·cases hc
  ·rename_i p j h3
   split at hc
   ·rename_i h4 h5;cases hc;exact a7f H E b h3 p j h4 q
   ·cases hc
  ·rename_i p j h3
   split at hc
   ·rename_i h4
    split at hc
    ·rename_i h5;cases hc;exact WV H E b h3 p j h4 h5 q
    ·cases hc
   ·cases hc
  ·cases hc
 |sliceToArrayPointer t x=>
  simp only [eW] at hc
  split at hc
  ·rename_i p j;cases hc;exact a8j H E b j p q
  ·cases hc
 |makeFunc c fst caps=>
  cases c with
  |func g=>
   simp only [eW] at hc
   split at hc
   ·rename_i p j;cases hc;exact Wh H E b p j q
   ·cases hc
  |_=>simp [eW] at hc
 |makeSlice t l c=>
  simp only [eW] at hc
  split at hc
  ·rename_i e he
   split at hc
   ·rename_i p j h3 h4;cases hc;exact TE H E b h3 h4 (ui he) p j q
   ·cases hc
  ·cases hc
 |slice t x lo hi mx=>
  simp only [eW] at hc
  split at hc
  ·rename_i p j h3 h4 h5
   cases hc
   cases mx with
   |none=>exact We H E b j h3 h4 p q
   |some m=>
    simp only [sN] at h5
    split at h5
    ·cases h5
    ·cases h5
  ·rename_i p j h3 h4 h5
   split at hc
   ·rename_i hsz;cases hc;exact a7G H E b j h3 h4 h5 p hsz q
   ·cases hc
  ·cases hc
 |fieldAddr t x n=>
  simp only [eW] at hc
  split at hc
  ·rename_i p j
   split at hc
   ·rename_i fd hf
    split at hc
    ·rename_i hsz;cases hc;exact b9F H E b j p hf hsz q
    ·cases hc
   ·cases hc
  ·cases hc
 |field t x n=>
  simp only [eW] at hc
  split at hc
  ·rename_i p j
   split at hc
   ·rename_i fd hf
    split at hc
    ·rename_i hg;cases hc;exact a9s H E b j p hf hg q
    ·cases hc
   ·cases hc
  ·cases hc
 |indexAddr t x i=>
  simp only [eW] at hc
  split at hc
  ·rename_i p j h3
   split at hc
   ·rename_i hsz;cases hc;exact b9O H E b j h3 p hsz q
   ·cases hc
  ·rename_i p j h3
   split at hc
   ·rename_i hsz;cases hc;exact a2T H E b j h3 p hsz q
   ·cases hc
  ·cases hc
 |index t x i=>
  simp only [eW] at hc
  split at hc
  ·rename_i p j h3;cases hc;exact a91 H E b j h3 p q
  ·rename_i p j h3
   split at hc
   ·rename_i hsz hg;cases hc;exact a6A H E b j h3 p hsz hg q
   ·cases hc
  ·cases hc
 |makeMap t r=>
  simp only [eW] at hc
  split at hc
  ·split at hc
   ·cases hc;exact a6H H b q
   ·cases hc
  ·cases hc
 |lookup t m k ok=>
  simp only [eW] at hc
  split at hc
  ·rename_i p j
   split at hc
   ·rename_i hg;cases hc;obtain ⟨hg,rfl⟩:=hg;exact a3K H E b p j hg q
   ·cases hc
  ·cases hc
 |mapUpdate t m k x=>
  simp only [eW] at hc
  split at hc
  ·rename_i p j h3
   split at hc
   ·rename_i hg;cases hc;exact a49 H E b p j h3 hg q
   ·cases hc
  ·cases hc
 |mapEntry t m k=>
  simp only [eW] at hc
  split at hc
  ·rename_i p j
   split at hc
   ·rename_i hg;cases hc;exact a2l H E b p j hg q
   ·cases hc
  ·cases hc
 |entryStore t m k x=>
  simp only [eW] at hc
  split at hc
  ·rename_i p j h3;cases hc;exact a3s H E b p j h3 q
  ·cases hc
 |extract x i=>
  simp only [eW] at hc
  split at hc
  ·rename_i hx;cases hc;exact b8J H E b hx q
  ·cases hc
 |call c=>exact a2e H E b hc hn q
 |_=>simp [eW] at hc
end
end
section
theorem dS {α:Type} {l:List α} {i:Nat} {x:α} (h:l[i]? =some x):i<l.length:=by
 rcases dc i l.length with a|a
 ·exact a
 ·rw [cf a] at h;cases h
def bT (blks:List Blk):ba:=fun i=>blks[i]?
theorem b7.move {F F':Frame} {μ μ':Mu} {h:ba} (h':ba) {w w':World}
 (q: ∀c,c<w.heap.size-> @sX F μ c->c<w'.heap.size/\w'.heap[c]? =w.heap[c]? /\ @sX F' μ' c) {v:V} {x:Value} (t: @b7 F μ h w v x) (m:v.cl=true): @b7 F' μ' h' w' v x:=by
 induction t with
 |lit v=>exact @b7.lit F' μ' h' w' v
 |agg cs xs u d hc ih=>simp [V.cl] at m
 |tup vs xs u hc ih=>simp [V.cl] at m
 |ptr b i o n x k hk hn hx hp=>simp [V.cl] at m
 |mp b x k hk hx hp=>simp [V.cl] at m
 |sl b s n x k hk hn hx hp=>simp [V.cl] at m
 |emp a=>exact @b7.emp F' μ' h' w' a
 |imm0 e a cap y=>exact @b7.imm0 F' μ' h' w' e a cap y
 |imm e rows c off cap ys y hr r hc z l d t ih=>
  obtain ⟨h0,h1,h2⟩:=q c hc z
  exact @b7.imm F' μ' h' w' e rows c off cap ys y hr r h0 h2 l (fun i j hi p=>by rw [ww h1];exact d i j hi p)
   (fun i row j v hi p=>ih i row j v hi p ((l row (al hi)).2 v (al p)).1)
 |iptr row o c off ys hc z l d t ih=>
  obtain ⟨h0,h1,h2⟩:=q c hc z
  exact @b7.iptr F' μ' h' w' row o c off ys h0 h2 l (fun j p=>by rw [ww h1];exact d j p) (fun j v p=>ih j v p (l v (al p)).1)
 |fn f caps xs u hc ih=>
  cases caps with
  |nil=>exact @b7.fn F' μ' h' w' f [] xs u (fun i v h=>by simp at h)
  |cons a b=>simp [V.cl] at m
 |unk x=>simp [V.cl] at m
inductive B6 (h:ba) (ids bor:List Nat):V->V->Prop
 |lit (v:Value):B6 h ids bor (.lit v) (.lit v)
 |imm (e:Nat) (r:List (List V)):B6 h ids bor (.imm e r) (.imm e r)
 |iptr (r:List V) (o:Nat):B6 h ids bor (.iptr r o) (.iptr r o)
 |undef:B6 h ids bor .undef .undef
 |fn (f:FuncId):B6 h ids bor (.fn f []) (.fn f [])
 |ptr (b i o n p:Nat) (hp:ids[p]? =some b):B6 h ids bor (.ptr b i o n) (.ptr p i o n)
 |sl (b s n p:Nat) (hp:ids[p]? =some b):B6 h ids bor (.sl b s n) (.sl p s n)
 |mp (b p:Nat) (hp:ids[p]? =some b):B6 h ids bor (.mp b) (.mp p)
 |bor (b s n:Nat) (k:Blk) (hb:b∈bor) (hk:h b=some k) (ho:k.op=false) (h0:0<k.esz) (hn:s+n=k.rows.length):B6 h ids bor (.sl b s n) (.imm k.esz (k.rows.drop s))
def Ext (h:ba) (ids ids':List Nat):Prop:=(∃e,ids'=ids++e)/\(ids.Nodup->ids'.Nodup)/\ ∀b∈ids',b∈ids\/ ∃k,h b=some k
theorem Ext.refl (h:ba) (ids:List Nat):Ext h ids ids:=⟨⟨[],by simp⟩,id,fun b a=> .inl a⟩
theorem Ext.trans {h:ba} {a b c:List Nat} (x:Ext h a b) (y:Ext h b c):Ext h a c:=by
 obtain ⟨⟨e,rfl⟩,d,f⟩:=x
 obtain ⟨⟨e',rfl⟩,i,j⟩:=y
 exact ⟨⟨e++e',by simp⟩,fun hn=>i (d hn),fun b k=>(j b k).elim (fun l=>f b l) .inr⟩
theorem Ext.at {h:ba} {a b:List Nat} (x:Ext h a b) {p i:Nat} (c:a[p]? =some i):b[p]? =some i:=by
 obtain ⟨⟨e,rfl⟩,_⟩:=x
 rw [bc (dS c)];exact c
theorem B6.mono {h:ba} {ids ids' bor bor':List Nat} {v v':V} (x:B6 h ids bor v v') (hi: ∀(p b:Nat),ids[p]? =some b->ids'[p]? =some b) (c: ∀b∈bor,b∈bor'):B6 h ids' bor' v v':=by
 cases x with
 |lit v=>exact .lit v
 |imm e r=>exact .imm e r
 |iptr r o=>exact .iptr r o
 |undef=>exact .undef
 |fn f=>exact .fn f
 |ptr b i o n p a=>exact .ptr b i o n p (hi _ _ a)
 |sl b s n p a=>exact .sl b s n p (hi _ _ a)
 |mp b p a=>exact .mp b p (hi _ _ a)
 |bor b s n k d j l h0 hn=>exact .bor b s n k (c b d) j l h0 hn
theorem vK {b:Nat}: ∀{ids:List Nat},b∈ids->ids[n3 b ids]? =some b
 |[],h=>by simp at h
 |x::r,h=>by
  simp only [n3]
  by_cases e:x=b
  ·rw [aa e];simp [e]
  ·rw [a7 e]
   have:b∈r:=by
    rcases aW.1 h with a|a
    ·exact absurd a.symm e
    ·exact a
   simpa using vK this
theorem GZ {h:ba} {ids:List Nat} {b:Nat} {k:Blk} (i:h b=some k):Ext h ids (iA ids b)/\(iA ids b)[n3 b (iA ids b)]? =some b:=by
 unfold iA
 split
 ·rename_i c;exact ⟨Ext.refl _ _,vK c⟩
 ·rename_i c
  refine ⟨⟨⟨[b],rfl⟩,fun hn=> ?_,fun b' d=> ?_⟩,vK sm⟩
  ·rw [lN]
   exact ⟨hn,by simp,fun x j y f=>by simp at f;subst f;intro e;exact c (e▸j)⟩
  ·rcases aJ.1 d with a|a
   ·exact .inl a
   ·simp at a;subst a;exact .inr ⟨k,i⟩
theorem DZ {h:ba} {own:Bool} {ids ids' bs:List Nat} {v v':V} (c:fq h own ids v=some (v',ids',bs)):Ext h ids ids'/\B6 h ids' bs v v'/\(own=true->bs=[])/\ ∀b∈bs, ∃k,h b=some k:=by
 cases v with
 |lit v=>simp [fq] at c;obtain ⟨rfl,rfl,rfl⟩:=c;exact ⟨Ext.refl _ _,.lit v,fun _=>rfl,fun b d=>by simp at d⟩
 |imm e r=>simp [fq] at c;obtain ⟨rfl,rfl,rfl⟩:=c;exact ⟨Ext.refl _ _,.imm e r,fun _=>rfl,fun b d=>by simp at d⟩
 |iptr r o=>simp [fq] at c;obtain ⟨rfl,rfl,rfl⟩:=c;exact ⟨Ext.refl _ _,.iptr r o,fun _=>rfl,fun b d=>by simp at d⟩
 |undef=>simp [fq] at c;obtain ⟨rfl,rfl,rfl⟩:=c;exact ⟨Ext.refl _ _,.undef,fun _=>rfl,fun b d=>by simp at d⟩
 |ptr b i o n=>
  simp only [fq] at c
  split at c
  ·rename_i k j
   split at c
   ·rename_i hn
    cases c
    obtain ⟨l,m⟩:=GZ (ids:=ids) j
    exact ⟨l,.ptr b i o n _ m,fun _=>rfl,fun b d=>by simp at d⟩
   ·cases c
  ·cases c
 |mp b=>
  simp only [fq] at c
  split at c
  ·rename_i k j
   cases c
   obtain ⟨l,m⟩:=GZ (ids:=ids) j
   exact ⟨l,.mp b _ m,fun _=>rfl,fun b d=>by simp at d⟩
  ·cases c
 |sl b s n=>
  simp only [fq] at c
  split at c
  ·rename_i k j
   split at c
   ·rename_i hn
    cases own with
    |true=>
     simp at c
     obtain ⟨rfl,rfl,rfl⟩:=c
     obtain ⟨l,m⟩:=GZ (ids:=ids) j
     exact ⟨l,.sl b s n _ m,fun _=>rfl,fun b d=>by simp at d⟩
    |false=>
     simp only [bC,if_false] at c
     split at c
     ·rename_i hc
      cases c
      exact ⟨Ext.refl _ _,.bor b s n k sm j hc.1 hc.2 hn,fun h=>(by cases h),fun b' p=>by simp at p;subst p;exact ⟨k,j⟩⟩
     ·cases c
   ·cases c
  ·cases c
 |fn f cs=>
  cases cs with
  |nil=>simp [fq] at c;obtain ⟨rfl,rfl,rfl⟩:=c;exact ⟨Ext.refl _ _,.fn f,fun _=>rfl,fun b d=>by simp at d⟩
  |cons a b=>simp [fq] at c
 |_=>simp [fq] at c
theorem to {h:ba} {own:Bool}: ∀{cs cs':List V} {ids ids' bs:List Nat},fI h own ids cs=some (cs',ids',bs)->
 Ext h ids ids'/\cs'.length=cs.length/\(∀(i:Nat) (v v':V),cs[i]? =some v->cs'[i]? =some v'->B6 h ids' bs v v')/\(own=true->bs=[])/\ ∀b∈bs, ∃k,h b=some k
 |[],cs',ids,ids',bs,c=>by
  simp [fI] at c
  obtain ⟨rfl,rfl,rfl⟩:=c
  exact ⟨Ext.refl _ _,rfl,(fun i v v' h=>by simp at h),fun _=>rfl,fun b a=>by simp at a⟩
 |v::r,cs',ids,ids',bs,c=>by
  simp only [fI] at c
  split at c
  ·rename_i v1 ids1 bs1 m
   split at c
   ·rename_i y ids2 bs2 n
    cases c
    obtain ⟨o,a2,a3,q⟩:=DZ m
    obtain ⟨j,s,t,w,x⟩:=to n
    refine ⟨o.trans j,by simp [s],fun i u u' e d=> ?_,fun l=>by rw [a3 l,w l];rfl,fun b a=> ?_⟩
    ·cases i with
     |zero=>simp at e d;subst e;subst d;exact a2.mono (fun p b f=>j.at f) (fun b a=>aJ.2 (.inl a))
     |succ i=>exact (t i u u' (by simpa using e) (by simpa using d)).mono (fun p b f=>f) (fun b a=>aJ.2 (.inr a))
    ·rcases aJ.1 a with a|a
     ·exact q b a
     ·exact x b a
   ·cases c
  ·cases c
inductive AY (h:ba) (ids bor:List Nat):V->V->Prop
 |cell (v v':V) (hv:B6 h ids bor v v'):AY h ids bor v v'
 |agg (cs cs':List V) (hl:cs'.length=cs.length) (hc: ∀(i:Nat) (v v':V),cs[i]? =some v->cs'[i]? =some v'->B6 h ids bor v v'):AY h ids bor (.agg cs) (.agg cs')
 |fn (f:FuncId) (cs cs':List V) (hl:cs'.length=cs.length) (hc: ∀(i:Nat) (v v':V),cs[i]? =some v->cs'[i]? =some v'->B6 h ids bor v v'):AY h ids bor (.fn f cs) (.fn f cs')
theorem AY.mono {h:ba} {ids ids' bor bor':List Nat} {v v':V} (x:AY h ids bor v v') (hi: ∀(p b:Nat),ids[p]? =some b->ids'[p]? =some b) (a: ∀b∈bor,b∈bor'):AY h ids' bor' v v':=by
 cases x with
 |cell v v' j=>exact .cell _ _ (j.mono hi a)
 |agg cs cs' c hc=>exact .agg cs cs' c (fun i v v' d e=>(hc i v v' d e).mono hi a)
 |fn f cs cs' c hc=>exact .fn f cs cs' c (fun i v v' d e=>(hc i v v' d e).mono hi a)
theorem O8 {h:ba} {own:Bool} {ids ids' bs:List Nat} {v v':V} (i:hJ h own ids v=some (v',ids',bs)):Ext h ids ids'/\AY h ids' bs v v'/\ ∀b∈bs, ∃k,h b=some k:=by
 have other:fq h own ids v=some (v',ids',bs)->Ext h ids ids'/\AY h ids' bs v v'/\ ∀b∈bs, ∃k,h b=some k:=fun j=>by
  obtain ⟨a,b,c,d⟩:=DZ j
  exact ⟨a,.cell _ _ b,d⟩
 cases v with
 |agg cs=>
  simp only [hJ] at i
  split at i
  ·rename_i j;cases i
   obtain ⟨a,b,c,d,e⟩:=to j
   exact ⟨a,.agg _ _ b c,e⟩
  ·cases i
 |fn f cs=>
  simp only [hJ] at i
  split at i
  ·rename_i j;cases i
   obtain ⟨a,b,c,d,e⟩:=to j
   exact ⟨a,.fn f _ _ b c,e⟩
  ·cases i
 |_=>exact other i
theorem M5 {h:ba} {owns:List Nat}: ∀{vs vs':List V} {j:Nat} {ids ids' bs:List Nat},lL h owns j ids vs=some (vs',ids',bs)->
 Ext h ids ids'/\vs'.length=vs.length/\(∀(i:Nat) (v v':V),vs[i]? =some v->vs'[i]? =some v'->AY h ids' bs v v')/\ ∀b∈bs, ∃k,h b=some k
 |[],vs',j,ids,ids',bs,c=>by
  simp [lL] at c
  obtain ⟨rfl,rfl,rfl⟩:=c
  exact ⟨Ext.refl _ _,rfl,(fun i v v' h=>by simp at h),fun b a=>by simp at a⟩
 |v::r,vs',j,ids,ids',bs,c=>by
  simp only [lL] at c
  split at c
  ·rename_i v1 ids1 bs1 m
   split at c
   ·rename_i x ids2 bs2 n
    cases c
    obtain ⟨o,a2,q⟩:=O8 m
    obtain ⟨l,s,t,w⟩:=M5 n
    refine ⟨o.trans l,by simp [s],fun i u u' e d=> ?_,fun b a=> ?_⟩
    ·cases i with
     |zero=>simp at e d;subst e;subst d;exact a2.mono (fun p b f=>l.at f) (fun b a=>aJ.2 (.inl a))
     |succ i=>exact (t i u u' (by simpa using e) (by simpa using d)).mono (fun p b f=>f) (fun b a=>aJ.2 (.inr a))
    ·rcases aJ.1 a with a|a
     ·exact q b a
     ·exact w b a
   ·cases c
  ·cases c
theorem a4l {h:ba} {ids ids' bs:List Nat} {v v':V} (a:hJ h true ids v=some (v',ids',bs)):bs=[]:=by
 have other:fq h true ids v=some (v',ids',bs)->bs=[]:=fun b=>(DZ b).2.2.1 rfl
 cases v with
 |agg cs=>
  simp only [hJ] at a
  split at a
  ·rename_i b;cases a;exact (to b).2.2.2.1 rfl
  ·cases a
 |fn f cs=>
  simp only [hJ] at a
  split at a
  ·rename_i b;cases a;exact (to b).2.2.2.1 rfl
  ·cases a
 |_=>exact other a
theorem Qs {h:ba}: ∀{cs cs':List V} {ids ids':List Nat},uE h ids cs=some (cs',ids')->
 Ext h ids ids'/\cs'.length=cs.length/\ ∀(i:Nat) (v v':V),cs[i]? =some v->cs'[i]? =some v'->AY h ids' [] v v'
 |[],cs',ids,ids',a=>by
  simp [uE] at a
  obtain ⟨rfl,rfl⟩:=a
  exact ⟨Ext.refl _ _,rfl,fun i v v' h=>by simp at h⟩
 |v::r,cs',ids,ids',a=>by
  simp only [uE] at a
  split at a
  ·rename_i v1 ids1 bs1 e
   split at a
   ·rename_i q ids2 j
    cases a
    obtain ⟨k,a2,_⟩:=O8 e
    rw [a4l e] at a2
    obtain ⟨f,l,m⟩:=Qs j
    refine ⟨k.trans f,by simp [l],fun i u u' d c=> ?_⟩
    cases i with
    |zero=>simp at d c;subst d;subst c;exact a2.mono (fun p b n=>f.at n) (fun b o=>o)
    |succ i=>exact m i u u' (by simpa using d) (by simpa using c)
   ·cases a
  ·cases a
theorem Lx {h:ba}: ∀{rs rs':List (List V)} {ids ids':List Nat},rR h ids rs=some (rs',ids')->
 Ext h ids ids'/\rs'.length=rs.length/\ ∀(i:Nat) (row row':List V),rs[i]? =some row->rs'[i]? =some row'->row'.length=row.length/\ ∀(j:Nat) (v v':V),row[j]? =some v->row'[j]? =some v'->AY h ids' [] v v'
 |[],rs',ids,ids',a=>by
  simp [rR] at a
  obtain ⟨rfl,rfl⟩:=a
  exact ⟨Ext.refl _ _,rfl,fun i v v' h=>by simp at h⟩
 |x::r,rs',ids,ids',a=>by
  simp only [rR] at a
  split at a
  ·rename_i s ids1 d
   split at a
   ·rename_i t ids2 e
    cases a
    obtain ⟨l,a2,a3⟩:=Qs d
    obtain ⟨k,m,n⟩:=Lx e
    refine ⟨l.trans k,by simp [m],fun i u u' f c=> ?_⟩
    cases i with
    |zero=>simp at f c;subst f;subst c;exact ⟨a2,fun j v v' d e=>(a3 j v v' d e).mono (fun p b o=>k.at o) (fun b q=>q)⟩
    |succ i=>exact n i u u' (by simpa using f) (by simpa using c)
   ·cases a
  ·cases a
structure YU (h:ba) (ids bor:List Nat) (k k0:Blk):Prop where
 esz:k0.esz=k.esz
 op:k0.op=k.op
 len:k0.rows.length=k.rows.length
 same:k.op=false->k0=k
 row:k.op=true-> ∀(i:Nat) (row row':List V),k.rows[i]? =some row->k0.rows[i]? =some row'->row'.length=row.length/\ ∀(j:Nat) (v v':V),row[j]? =some v->row'[j]? =some v'->AY h ids bor v v'
theorem YU.mono {h:ba} {ids ids' bor bor':List Nat} {k a:Blk} (x:YU h ids bor k a) (hi: ∀(p b:Nat),ids[p]? =some b->ids'[p]? =some b) (f: ∀b∈bor,b∈bor'):YU h ids' bor' k a:=
 ⟨x.esz,x.op,x.len,x.same,fun c i row row' d e=>⟨(x.row c i row row' d e).1,fun j v v' l m=>((x.row c i row row' d e).2 j v v' l m).mono hi f⟩⟩
theorem DL {h:ba}: ∀{fuel pos:Nat} {ids ids':List Nat} {blks:List Blk},gN h fuel pos ids=some (blks,ids')->pos<=ids.length->
 Ext h ids ids'/\ids'.length=pos+blks.length/\ ∀(i b:Nat),ids'[pos+i]? =some b-> ∃k s,h b=some k/\blks[i]? =some s/\YU h ids' [] k s
 |0,pos,ids,ids',blks,a,l=>by simp [gN] at a
 |fuel+1,pos,ids,ids',blks,a,l=>by
  simp only [gN] at a
  split at a
  ·rename_i hn
   cases a
   have:ids.length<=pos:=by simpa using hn
   exact ⟨Ext.refl _ _,by simp;omega,fun i b c=>by have:=dS c;omega⟩
  ·rename_i b0 hb0
   have w:=dS hb0
   split at a
   ·cases a
   ·rename_i k t
    split at a
    ·rename_i m
     split at a
     ·rename_i r ids1 d
      cases a
      obtain ⟨f,a2,a3⟩:=DL d om
      refine ⟨f,by simp [a2];omega,fun i b c=> ?_⟩
      cases i with
      |zero=>
       have:=f.at hb0
       simp only [cH] at c
       rw [this] at c;cases c
       exact ⟨k,k,t,by simp,⟨rfl,rfl,rfl,(fun _=>rfl),(fun d=>by rw [m] at d;cases d)⟩⟩
      |succ i=>simpa using a3 i b (by rw [<-c];congr 1;omega)
     ·cases a
    ·rename_i m
     have n:k.op=true:=by cases o:k.op with|true=>rfl|false=>exact absurd o m
     split at a
     ·cases a
     ·rename_i rows ids1 d
      split at a
      ·rename_i r ids2 x
       cases a
       obtain ⟨q,y,z⟩:=Lx d
       have u:ids.length<=ids1.length:=by obtain ⟨⟨e,rfl⟩,_⟩:=q;simp
       obtain ⟨f,a2,a3⟩:=DL x om
       refine ⟨q.trans f,by simp [a2];omega,fun i b c=> ?_⟩
       cases i with
       |zero=>
        have:=f.at (q.at hb0)
        simp only [cH] at c
        rw [this] at c;cases c
        refine ⟨k,{ k with rows:=rows },t,by simp,⟨rfl,rfl,y,(fun d=>by rw [n] at d;cases d),fun _ i row row' g1 g2=> ?_⟩⟩
        obtain ⟨c1,c2⟩:=z i row row' g1 g2
        exact ⟨c1,fun j v v' g3 g4=>(c2 j v v' g3 g4).mono (fun p b l=>f.at l) (fun b c=>c)⟩
       |succ i=>simpa using a3 i b (by rw [<-c];congr 1;omega)
      ·cases a
end
section
section
variable {G:Frame} {μ μ':Mu} {h h':ba} {w w':World}
theorem NS (C: @Chg G μ h w μ' h' w'): @pI G μ w μ' w':= @Chg.ev G _ _ _ _ _ _ C
theorem b5b (C: @Chg G μ h w μ' h' w'):WC μ h w μ' h' w':= @Chg.refs G _ _ _ _ _ _ C
theorem c1K (C: @pI G μ w μ' w'):w'.os=w.os:= @pI.os G _ _ _ _ C
theorem a1T (C: @pI G μ w μ' w'):w'.tape=w.tape:= @pI.tape G _ _ _ _ C
theorem b1q (C: @pI G μ w μ' w'):w'.output=w.output:= @pI.output G _ _ _ _ C
theorem a5N (C: @pI G μ w μ' w'):w.drawn<=w'.drawn:= @pI.drawn G _ _ _ _ C
theorem VT (C: @pI G μ w μ' w'):w.heap.size<=w'.heap.size:= @pI.size G _ _ _ _ C
theorem a3V (C: @pI G μ w μ' w'): ∀c,c<w.heap.size-> @sX G μ c->w'.heap[c]? =w.heap[c]? /\ @sX G μ' c:= @pI.keep G _ _ _ _ C
theorem WE (C: @pI G μ w μ' w'): ∀c,G.fr c->w'.heap[c]? =w.heap[c]? := @pI.keepF G _ _ _ _ C
theorem c34 (H: @bG G μ h w): ∀b b' c,μ b=some c->μ b'=some c->b=b':= @bG.inj G _ _ _ H
theorem c3Z (H: @bG G μ h w): ∀b c,μ b=some c-> ∃k,h b=some k/\k.lies:= @bG.dom G _ _ _ H
theorem b5M (H: @bG G μ h w): ∀b k,h b=some k-> @c5S G μ h w b k:= @bG.blk G _ _ _ H
theorem a5Y (H: @bG G μ h w): ∀b k,h b=some k-> ∀row∈k.rows,(0<k.esz->row.length=k.esz)/\ ∀v∈row,v.cell=true/\(k.op=false->v.cl=true):= @bG.rows G _ _ _ H
theorem Yu (H: @bG G μ h w): ∀b c,μ b=some c-> ¬G.fr c:= @bG.frame G _ _ _ H
theorem c0y (H: @bG G μ h w): ∀c,G.fr c->c<w.heap.size:= @bG.frlt G _ _ _ H
end
theorem fC {α:Type} {l:List α} {i:Nat} (h:i<l.length): ∃x,l[i]? =some x:=⟨l[i],aq h⟩
structure Way (h:ba) (ids bor:List Nat) (blks:List Blk):Prop where
 nd:ids.Nodup
 len:ids.length=blks.length
 at_: ∀(i b:Nat),ids[i]? =some b-> ∃k k0,h b=some k/\blks[i]? =some k0/\YU h ids bor k k0
 dis: ∀b∈bor,b∉ids
 has: ∀b∈bor, ∃k,h b=some k
@[reducible] def sj (F:Frame) (μ:Mu) (ids bor:List Nat):Frame:=⟨fun c=>F.fr c\/ ∃b,μ b=some c/\b∉ids/\b∉bor⟩
def qU (μ:Mu) (ids:List Nat):Mu:=fun i=>(ids[i]?).bind μ
section
variable {F:Frame} {μ:Mu} {h:ba} {w:World} {ids bor:List Nat} {blks:List Blk}
theorem D4 {i c:Nat} (hi:qU μ ids i=some c): ∃b,ids[i]? =some b/\μ b=some c:=by
 unfold qU at hi
 cases a:ids[i]? with
 |none=>rw [a] at hi;cases hi
 |some b=>rw [a] at hi;exact ⟨b,rfl,hi⟩
theorem HG (W:Way h ids bor blks) {c:Nat} (k: ¬F.fr c) (j: ∀b,b∉bor->μ b≠some c): @sX (sj F μ ids bor) (qU μ ids) c:=by
 refine ⟨fun i hi=> ?_,fun d=> ?_⟩
 ·obtain ⟨b,e,l⟩:=D4 hi
  exact j b (fun a=>W.dis b a (al e)) l
 ·rcases d with d|⟨b,e,_,f⟩
  ·exact k d
  ·exact j b f e
theorem Lf (W:Way h ids bor blks) {v:V} {x:Value} (e: @b7 F μ h w v x) (a:v.cl=true): @b7 (sj F μ ids bor) (qU μ ids) (bT blks) w v x:=
 b7.move (F:=F) _ (fun c hc d=>⟨hc,rfl,HG W d.2 (fun b _=>d.1 b)⟩) e a
theorem XA (W:Way h ids bor blks) (H: @bG F μ h w) {v v':V} {x:Value} (hl:B6 h ids bor v v') (j: @b7 F μ h w v x): @b7 (sj F μ ids bor) (qU μ ids) (bT blks) w v' x:=by
 cases hl with
 |lit y=>exact Lf W j rfl
 |imm e r=>exact Lf W j rfl
 |iptr r o=>exact Lf W j rfl
 |undef=>exact @b7.unk (sj F μ ids bor) (qU μ ids) (bT blks) w x
 |fn f=>exact Lf W j rfl
 |ptr b i o n p l=>
  cases j with
  |ptr _ _ _ _ _ k q t hx u hd=>
   obtain ⟨k1,k0,d,h2,L⟩:=W.at_ p b l
   rw [q] at d;cases d
   refine @b7.ptr (sj F μ ids bor) (qU μ ids) (bT blks) w p i o n x k0 h2 (by rw [L.len,L.esz];exact t) hx (fun m z g3=> ?_) (fun g=>by rw [L.op];exact hd (by rw [<-L.esz];exact g))
   rw [L.esz] at m ⊢
   obtain ⟨c,c1,c2⟩:=u m (by rw [<-L.len];exact z) g3
   exact ⟨c,by simp [qU,l,c1],c2⟩
 |sl b s n p l=>
  cases j with
  |sl _ _ _ _ k q t hx u=>
   obtain ⟨k1,k0,d,h2,L⟩:=W.at_ p b l
   rw [q] at d;cases d
   refine @b7.sl (sj F μ ids bor) (qU μ ids) (bT blks) w p s n x k0 h2 (by rw [L.len,L.esz];exact t) hx (fun m z=> ?_)
   rw [L.esz] at m ⊢
   obtain ⟨a,cap,c1,c2⟩:=u m (by rw [<-L.len];exact z)
   refine ⟨a,cap,c1, ?_⟩
   rcases c2 with c2|⟨c,d1,d2,d3,d4⟩
   ·exact .inl c2
   ·exact .inr ⟨c,by simp [qU,l,d1],d2,d3,d4⟩
 |mp b p l=>
  cases j with
  |mp _ _ k q hx hmm=>
   obtain ⟨k1,k0,d,h2,L⟩:=W.at_ p b l
   rw [q] at d;cases d
   refine @b7.mp (sj F μ ids bor) (qU μ ids) (bT blks) w p x k0 h2 hx (fun m z=> ?_)
   rw [L.esz] at m
   rw [L.op] at z
   obtain ⟨c,c1,c2⟩:=hmm m z
   exact ⟨c,by simp [qU,l,c1],c2⟩
 |bor b s n k hb q ho h0 hn=>
  have d:= @MB μ h w F H b s n k x q ho h0 hn j (cM μ b none) h (by simp [cM]) (fun b' c hm=>by
   unfold cM at hm
   split at hm
   ·cases hm
   ·exact hm)
  refine b7.move (F:=F) _ (fun c hc hs=>⟨hc,rfl,HG W hs.2 (fun b' hb'=> ?_)⟩) d rfl
  have hne:b'≠b:=fun e=>hb' (e▸hb)
  have:=hs.1 b'
  simpa [cM,hne] using this
theorem B6.cellOf {v v':V} (a:B6 h ids bor v v') (hc:v.cell=true):v'.cell=true:=by
 cases a<;>first|exact hc|rfl
theorem VS (W:Way h ids bor blks) (H: @bG F μ h w) {v v':V} {x:Value} (d:AY h ids bor v v') (j: @b7 F μ h w v x): @b7 (sj F μ ids bor) (qU μ ids) (bT blks) w v' x:=by
 cases d with
 |cell _ _ d=>exact XA W H d j
 |agg cs cs' a b=>
  cases j with
  |agg _ xs d e hc=>
   refine @b7.agg (sj F μ ids bor) (qU μ ids) (bT blks) w cs' xs (by rw [d,a]) (fun v j=> ?_) (fun i v hi=> ?_)
   ·obtain ⟨i,hi,rfl⟩:=bp j
    have c:cs[i]? =some cs[i]:=aq om
    exact (b i _ _ c (aq hi)).cellOf (e _ (al c))
   ·have k:=dS hi
    have c:cs[i]? =some cs[i]:=aq om
    exact XA W H (b i _ _ c hi) (hc i _ c)
 |fn f cs cs' a b=>
  cases j with
  |fn _ _ xs d hc=>
   refine @b7.fn (sj F μ ids bor) (qU μ ids) (bT blks) w f cs' xs (by rw [d,a]) (fun i v hi=> ?_)
   have k:=dS hi
   have c:cs[i]? =some cs[i]:=aq om
   exact XA W H (b i _ _ c hi) (hc i _ c)
theorem AY.cellOf {v v':V} (a:AY h ids bor v v') (hc:v.cell=true):v'.cell=true:=by
 cases a with
 |cell _ _ h=>exact h.cellOf hc
 |agg=>simp [V.cell] at hc
 |fn=>rfl
theorem Way.back (W:Way h ids bor blks) {i:Nat} {a:Blk} (d:bT blks i=some a): ∃b k,ids[i]? =some b/\h b=some k/\YU h ids bor k a:=by
 have c:=dS d
 obtain ⟨b,hi⟩:=fC (l:=ids) (i:=i) (by rw [W.len];exact c)
 obtain ⟨k,j,e,f,L⟩:=W.at_ i _ hi
 have:blks[i]? =some a:=d
 rw [f] at this;cases this
 exact ⟨_,k,hi,e,L⟩
theorem Y4 (W:Way h ids bor blks) (H: @bG F μ h w): @bG (sj F μ ids bor) (qU μ ids) (bT blks) w:=by
 refine @bG.mk (sj F μ ids bor) (qU μ ids) (bT blks) w (fun i i' c d p=> ?_) (fun i c d=> ?_) (fun i o hk=> ?_) (fun i o hk=> ?_) (fun i c d=> ?_) (fun c hc=> ?_)
 ·obtain ⟨b,f,x⟩:=D4 d
  obtain ⟨b',r,hm'⟩:=D4 p
  have:= @bG.inj F μ h w H _ _ _ x hm'
  subst this
  exact (List.getElem?_inj (dS f) W.nd).1 (by rw [f,r])
 ·obtain ⟨b,f,x⟩:=D4 d
  obtain ⟨k,o,g1,g2,L⟩:=W.at_ i b f
  obtain ⟨k',z,h0⟩:= @bG.dom F μ h w H b c x
  rw [g1] at z;cases z
  exact ⟨o,g2,by unfold Blk.lies;rw [L.esz,L.op];exact h0⟩
 ·obtain ⟨b,k,f,m,L⟩:=W.back hk
  rcases @bG.blk F μ h w H b k m with ⟨g1,g2,g3⟩|⟨g0,c,arr,t,lo,hi,gm,gh,gf,gl,gv⟩|⟨g0,go,c,gm,gb⟩
  ·left
   rw [L.same g2]
   exact ⟨g1,g2,by simp [qU,f,g3]⟩
  rotate_left
  ·right;right
   refine ⟨by rw [L.esz];exact g0,by rw [L.op];exact go,c,by simp [qU,f,gm], ?_⟩
   have:o.rows=k.rows:=by
    refine jl L.len (fun e d p=> ?_)
    have e1:o.rows[e]? =some o.rows[e]:=aq d
    have e2:k.rows[e]? =some k.rows[e]:=aq p
    obtain ⟨r1,r2⟩:=L.row go e _ _ e2 e1
    refine jl r1 (fun j s q=> ?_)
    have h5:=r2 j _ _ (aq q) (aq s)
    obtain ⟨n,hn⟩:=gb.lit (b9 p) (b9 q)
    rw [hn] at h5
    cases h5 with
    |cell _ _ h6=>generalize o.rows[e][j]=u at h6;cases h6;exact hn.symm
   rw [this];exact gb
  ·right;left
   refine ⟨by rw [L.esz];exact g0,c,arr,t,lo,hi,by simp [qU,f,gm],gh,gf,by rw [L.len,L.esz];exact gl,fun e row' j v' d p=> ?_⟩
   rw [L.esz]
   cases a:k.op with
   |false=>
    rw [L.same a] at d
    exact Lf W (gv e row' j v' d p) ((@bG.rows F μ h w H b k m row' (al d)).2 v' (al p)|>.2 a)
   |true=>
    obtain ⟨row,s⟩:=fC (l:=k.rows) (i:=e) (by rw [<-L.len];exact dS d)
    obtain ⟨r1,r2⟩:=L.row a e _ _ s d
    obtain ⟨v,q⟩:=fC (l:=row) (i:=j) (by rw [<-r1];exact dS p)
    exact VS W H (r2 j _ _ q p) (gv e row j v s q)
 ·obtain ⟨b,k,f,m,L⟩:=W.back hk
  intro row' hrow
  obtain ⟨e,hi2,rfl⟩:=bp hrow
  have d:o.rows[e]? =some o.rows[e]:=aq hi2
  cases a:k.op with
  |false=>
   have:=L.same a
   subst this
   have y:= @bG.rows F μ h w H b o m _ (al d)
   exact ⟨y.1,fun v hv=>⟨(y.2 v hv).1,fun _=>(y.2 v hv).2 a⟩⟩
  |true=>
   obtain ⟨row,s⟩:=fC (l:=k.rows) (i:=e) (by rw [<-L.len];exact hi2)
   obtain ⟨r1,r2⟩:=L.row a e _ _ s d
   have y:= @bG.rows F μ h w H b k m _ (al s)
   refine ⟨fun h0=>by rw [L.esz] at h0;rw [r1,y.1 h0,L.esz],fun v hv=> ?_⟩
   obtain ⟨j,hj,rfl⟩:=bp hv
   obtain ⟨v,q⟩:=fC (l:=row) (i:=j) om
   refine ⟨(r2 j _ _ q (aq hj)).cellOf (y.2 _ (al q)).1,fun h5=> ?_⟩
   rw [L.op,a] at h5;cases h5
 ·obtain ⟨b,f,x⟩:=D4 d
  intro hf
  rcases hf with hf|⟨b',r,hn,_⟩
  ·exact @bG.frame F μ h w H b c x hf
  ·have:= @bG.inj F μ h w H _ _ _ x r
   subst this
   exact hn (al f)
 ·rcases hc with hf|⟨b,f,_⟩
  ·exact @bG.frlt F μ h w H c hf
  ·exact @bG.lt F μ h w H b c f
theorem b44 {owns:FuncId->List Nat} {f:FuncId} {args args':List V} (a:gi owns h f args=some (args',blks,ids,bor)):
 Way h ids bor blks/\args'.length=args.length/\ ∀(i:Nat) (v v':V),args[i]? =some v->args'[i]? =some v'->AY h ids bor v v':=by
 unfold gi at a
 split at a
 ·cases a
 ·rename_i z ids0 bor1 m
  split at a
  ·cases a
  ·rename_i bl ids1 n
   split at a
   ·cases a
   ·rename_i d
    cases a
    obtain ⟨o,q,r,s⟩:=M5 m
    obtain ⟨l,t,u⟩:=DL n (tH _)
    refine ⟨⟨l.2.1 (o.2.1 lr),by rw [t];omega,(fun i b c=>by obtain ⟨k,w,e,j,x⟩:=u i b (by simpa using c);exact ⟨k,w,e,j,x.mono (fun p b a=>a) (fun b c=>by simp at c)⟩),fun b c y=>d ?_,s⟩,q,fun i v v' e j=>(r i v v' e j).mono (fun p b a=>l.at a) (fun b c=>c)⟩
    rw [jm]
    exact ⟨b,c,by simpa using y⟩
end
end
end Go.AI
