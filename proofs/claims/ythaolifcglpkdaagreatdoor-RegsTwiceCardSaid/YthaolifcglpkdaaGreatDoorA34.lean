/-
  Part A34: lemmas, each with its own conditions.
-/
import Derived.Test.YthaolifcglpkdaaGreatDoorA33
set_option maxRecDepth 100000
set_option maxHeartbeats 0
set_option linter.all false
namespace Go.Ago
open List Nat
structure Hd where
 own:List (Int×aI)
 rest:aI
def Hd.keys (h:Hd):List Int:=h.own.map (·.1)
def Hd.of (h:Hd)(k:Int):aI:=match h.own.find? (fun p=>decide (p.1=k)) with
 | some p=>p.2
 | none=>h.rest
def mC (b:List Int)(f:Int->aI)(a:aI):Hd:=⟨b.map fun k=>(k,f k),a⟩
theorem HS {b:List Int}{f:Int->aI}{a:aI}:(mC b f a).keys=b:=by
 unfold Hd.keys mC;rw[map_map];exact map_id _
theorem uP {f:Int->aI}{a:aI}{k:Int}:∀{c:List Int},(mC c f a).of k=if k∈c then f k else a
 | []=>rfl
 | x :: c => by
   have d:=@uP f a k c;unfold Hd.of mC at *
   grind
theorem Hd.xH {h:Hd}{k:Int}(b:k∉h.keys):h.of k=h.rest:=by
 unfold Hd.of;rw[find?_eq_none.2 fun p a=>by
  simp;intro e;exact b (mem_map.2 ⟨p,a,e⟩)]
theorem GJ:∀{l:List (Int×aI)} {k:Int} {s:aI},a_ (l.map (·.1))->(k,s)∈l->l.find? (fun p=>decide (p.1=k))=some (k,s)
 | (a, x) :: l, k, s, f, d => by
   have c:=a_.cons.1 f;rw[find?_cons];rcases mem_cons.1 d with e|d
   . grind
   . have := c.1 k (mem_map.2 ⟨_, d, rfl⟩)
     rw[decide_eq_false aY];exact GJ c.2 d
theorem Hd.IY {h:Hd}(hi:a_ h.keys){k:Int}{s:aI}(a:(k,s)∈h.own):h.of k=s:=by
 unfold Hd.of;rw[GJ hi a]
def Hd.set (h:Hd)(r a:Int):Hd:=mC (jL h.keys a) (fun k=>if k=a then ⟨false,[r]⟩ else (h.of k).wo r) (h.rest.wo r)
def Hd.move (h:Hd)(a fr:Int):Hd:=mC (jL h.keys a) (fun k=>if k=a then h.of fr else h.of k) h.rest
def Hd.mt (h o:Hd):Hd:=mC (ji h.keys o.keys) (fun k=>(h.of k).mt (o.of k)) (h.rest.mt o.rest)
theorem Hd.Wa {h:Hd}{r a k:Int}:(h.set r a).of k=if k=a then ⟨false,[r]⟩ else (h.of k).wo r:=by
 unfold Hd.set;rw[uP]
 by_cases c:k∈jL h.keys a
 . grind
 have d:=fun e=>c (ia.2 (.inl e))
 have b:=fun e=>c (ia.2 (.inr e))
 rw[if_neg c,if_neg d,Hd.xH b]
theorem Hd.V_ {h:Hd}{b fr k:Int}:(h.move b fr).of k=if k=b then h.of fr else h.of k:=by
 unfold Hd.move;rw[uP]
 by_cases c:k∈jL h.keys b
 . grind
 have d:=fun e=>c (ia.2 (.inl e))
 have a:=fun e=>c (ia.2 (.inr e))
 rw[if_neg c,if_neg d,Hd.xH a]
theorem Hd.CB {h o:Hd}{k:Int}:(h.mt o).of k=(h.of k).mt (o.of k):=by
 unfold Hd.mt;rw[uP]
 by_cases a:k∈ji h.keys o.keys
 . grind
 rw[if_neg a,Hd.xH fun e=>a (jw.2 (.inl e)),Hd.xH fun e=>a (jw.2 (.inr e))]
def aI.same (s o:aI):Bool:=decide (s.all=o.all) && decide (s.l=o.l)
theorem aI.Ko {s o:aI}:s.same o=true↔s=o:=by
 obtain⟨a,l⟩:=s;obtain⟨b,m⟩:=o;simp[aI.same]
def Hd.dy (h o:Hd):Bool:=!(h.rest.mt o.rest).same h.rest || (ji h.keys o.keys).any fun k=>!((h.of k).mt (o.of k)).same (h.of k)
structure Hd.Ok (M N:Int)(h:Hd):Prop where
 inc:a_ h.keys
 bd:∀k∈h.keys,0≤k∧k<M
 all:∀k,(h.of k).Ok N
 rest:h.rest.Ok N
theorem DG {M N:Int}{b:List Int}{f:Int->aI}{a:aI}(d:a_ b)(e:∀k∈b,0≤k∧k<M)(g:∀k,(f k).Ok N)(c:a.Ok N):(mC b f a).Ok M N:=
 ⟨by rw[HS];exact d,by rw[HS];exact e,fun k=>by rw[uP];grind,c⟩
theorem Hd.Ok.set {M N:Int}{h:Hd}(b:h.Ok M N){r a:Int}(c:0≤r∧r<N)(f:0≤a∧a<M):(h.set r a).Ok M N:=
 DG (oC b.inc) (fun k d=>(ia.1 d).elim (fun e=>aa) (b.bd k)) (fun k=>by split;exact aI.Ok.one c;exact(b.all k).wo c) (b.rest.wo c)
theorem Hd.Ok.move {M N:Int}{h:Hd}(a:h.Ok M N){b fr:Int}(d:0≤b∧b<M):(h.move b fr).Ok M N:=
 DG (oC a.inc) (fun k c=>(ia.1 c).elim (fun e=>aa) (a.bd k)) (fun k=>by split;exact a.all _;exact a.all k) a.rest
theorem Hd.Ok.mt {M N:Int}{h o:Hd}(b:h.Ok M N)(a:o.Ok M N):(h.mt o).Ok M N:=
 DG (r_ a.inc) (fun k c=>(jw.1 c).elim (b.bd k) (a.bd k)) (fun k=>(b.all k).mt (a.all k)) (b.rest.mt a.rest)
def cN:Hd:=⟨[],⟨true,[]⟩⟩
theorem Ho {M N:Int}:cN.Ok M N:=⟨a_.nil,fun k a=>(by cases a),fun _=>aI.Ok.top,aI.Ok.top⟩
def qP (f:Nat->Nat):Nat->Nat
 | 0=>0
 | n+1=>qP f n+f n
theorem Dp {f g:Nat->Nat}:∀{n:Nat},(∀i,i<n->f i≤g i)->qP f n≤qP g n
 | 0,_=>Nat.le_refl _
 | n+1,h=>add_le_add (Dp fun i b=>h i aa) (h n aa)
theorem Dq {f g:Nat->Nat}:∀{n i:Nat},(∀i,i<n->f i≤g i)->i<n->f i<g i->qP f n<qP g n
 | n + 1, i, h, d, b => by
   by_cases e:i=n
   . subst e;exact Nat.add_lt_add_of_le_of_lt (Dp fun j c=>h j aa) b
   exact Nat.add_lt_add_of_lt_of_le (Dq (fun j c=>h j aa) aa b) (h n aa)
def Hd.rk (M N:Nat)(h:Hd):Nat:=h.rest.rk N+qP (fun l=>(h.of l).rk N) M
theorem Hd.uY {M N:Nat}{h o:Hd}(c:h.Ok M N)(d:o.Ok M N):h.dy o=true->(h.mt o).rk M N<h.rk M N:=by
 intro a;have r:=aI.uY c.rest d.rest;have m:∀i:Nat,i<M->((h.mt o).of i).rk N≤(h.of i).rk N:=fun i _=>by rw[Hd.CB];exact(aI.uY (c.all i) (d.all i)).1
 have q:=Dp m;have p:(h.mt o).rest=h.rest.mt o.rest:=rfl;unfold Hd.rk;rw[p];unfold Hd.dy at a;rw[Bool.or_eq_true] at a;rcases a with a|a
 . have b : h.rest.mt o.rest ≠ h.rest := fun e => by rw [aI.Ko.2 e] at a; cases a
   grind
 . obtain ⟨k, g, j⟩ := any_eq_true.1 a
   have s:0≤k∧k<(M:Int):=(jw.1 g).elim (c.bd k) (d.bd k);have l:((k.toNat:Nat):Int)=k:=aa;have n:=aI.uY (c.all k) (d.all k);have b:(h.of k).mt (o.of k)≠h.of k:=fun e=>by rw[aI.Ko.2 e] at j;grind
   have f:((h.mt o).of ((k.toNat:Nat):Int)).rk N<(h.of ((k.toNat:Nat):Int)).rk N:=by
    rw[l,Hd.CB];have:((h.of k).mt (o.of k)).rk N≠(h.of k).rk N:=fun e=>b (n.2 e)
    have:=n.1;omega
   have:=Dq m (i:=k.toNat) aa f;omega
inductive mT|mv (x2 fr:Int)|op (rR:Bool) (r a:Int)
structure Sk where
 st:List mT
 hJ:List (List Int)
 fe:List Int
def fC (X:List Hd×Bool)(a:Nat)(h:Hd):List Hd×Bool:=
 if (X.1.getD a cN).dy h=true then (X.1.set a ((X.1.getD a cN).mt h),true) else X
def ee (X:List Hd×Bool)(a:Nat)(l:List Int):List Hd×Bool:=l.foldl (fun X t=>fC X t.toNat (X.1.getD a cN)) X
def fJ (X:List Hd×Bool)(c:Nat)(b:Bool)(r a:Int):List Hd×Bool:=
 if b=true then fC X (c+1) (if 0≤a then (X.1.getD c cN).set r a else X.1.getD c cN) else X
def jX (d:Sk)(X:List Hd×Bool)(b:Nat):List Hd×Bool:=match d.st.getD b (.mv 0 0) with
 | .mv e f=>fC X (b+1) ((X.1.getD b cN).move e f)
 | .op c r a=>ee (fJ X b c r a) b (d.hJ.getD b [])
def dO (b:Sk)(a:List Hd)(n:Nat):List Hd×Bool:=(List.range n).foldl (jX b) (ee (a,false) b.st.length b.fe)
def fV (b:Sk)(a:List Hd):List Hd×Bool:=dO b a b.st.length
def uC (a:Sk):List Hd:=replicate (a.st.length+1) cN
def iX (b:Sk):Nat->List Hd
 | 0=>uC b
 | j+1=>(fV b (iX b j)).1
def j1 (b:Sk)(a:List Hd):Prop:=(∃j,a=iX b j)∧fV b a=(a,false)
theorem B5 {c:Sk}{j:Nat}{a:List Hd}(h:a=iX c j)(d:fV c a=(a,false)):∀m,iX c (j+m)=a
 | 0=>h.symm
 | m+1=>by show(fV _ (iX _ (j+m))).1=a;rw[B5 h d m,d]
theorem j1.uniq {c:Sk}{a b:List Hd}(e:j1 c a)(f:j1 c b):a=b:=by
 obtain⟨⟨j,g⟩,d⟩:=e;obtain⟨⟨k,i⟩,h⟩:=f;have m:=B5 g d k;have l:=B5 i h j
 grind
theorem xh {X:List Hd×Bool}{a:Nat}{h:Hd}:(fC X a h).1.length=X.1.length:=by
 unfold fC
 grind
theorem tX:∀{l:List Int} {X:List Hd×Bool} {p:Nat},(ee X p l).1.length=X.1.length
 | [],_,_=>rfl
 | x :: l, X, p => by
   show(ee _ p l).1.length=_;rw[tX,xh]
theorem Be {X:List Hd×Bool}{p:Nat}{f:Bool}{r a:Int}:(fJ X p f r a).1.length=X.1.length:=by
 unfold fJ;split
 . exact xh
 rfl
theorem Y7 {a:Sk}{X:List Hd×Bool}{p:Nat}:(jX a X p).1.length=X.1.length:=by
 unfold jX;split
 . exact xh
 rw[tX,Be]
theorem qV {b:Sk}{a:List Hd}{n:Nat}:dO b a (n+1)=jX b (dO b a n) n:=by
 unfold dO;rw[range_succ,foldl_append];rfl
theorem yU {c:Sk}{b:List Hd}:∀{n:Nat},(dO c b n).1.length=b.length
 | 0=>tX
 | n+1=>by rw[qV,Y7,yU]
theorem xl {b:Sk}:∀{j:Nat},(iX b j).length=b.st.length+1
 | 0=>length_replicate
 | j+1=>by show(fV _ _).1.length=_;unfold fV;rw[yU,xl]
def mT.Ok (M N:Int):mT->Prop
 | .mv b c=>0≤b∧b<M
 | .op _ r a=>0≤a->(0≤r∧r<N)∧a<M
def Sk.Ok (M N:Int)(a:Sk):Prop:=∀s∈a.st,s.Ok M N
def gY (M N:Int)(l:List Hd):Prop:=∀h∈l,h.Ok M N
theorem gY.get {M N:Int}{l:List Hd}(h:gY M N l)(p:Nat):(l.getD p cN).Ok M N:=by
 rw[getD_eq_getElem?_getD];cases e:l[p]? with
 | none=>exact Ho
 | some x=>exact h x (mem_of_getElem? e)
def sM (M N:Nat)(l:List Hd):Nat:=qP (fun i=>(l.getD i cN).rk M N) l.length
def jm (M N:Nat)(X Y:List Hd×Bool):Prop:=(Y.1=X.1∧Y.2=X.2)∨(sM M N Y.1<sM M N X.1∧Y.2=true)
theorem jm.refl {M N:Nat}(X:List Hd×Bool):jm M N X X := .inl (ag)
theorem jm.trans {M N:Nat}{X Y Z:List Hd×Bool}(f:jm M N X Y)(e:jm M N Y Z):jm M N X Z:=by
 rcases f with⟨a,b⟩|⟨a,b⟩
 . grind
 rcases e with⟨c,d⟩|⟨c,d⟩
 . exact .inr ⟨by grind,d.trans b⟩
 . exact .inr ⟨aa,d⟩
theorem BX {M N:Nat}{X:List Hd×Bool}{a:Nat}{h:Hd}(b:gY M N X.1)(e:h.Ok M N)(f:a<X.1.length):jm M N X (fC X a h)∧gY M N (fC X a h).1:=by
 unfold fC
 by_cases d:(X.1.getD a cN).dy h=true
 . rw [if_pos d]
   have g:=Hd.uY (b.get a) e d;refine⟨.inr ⟨?_,rfl⟩,fun x c=>?_⟩
   . unfold sM
     rw[length_set];refine Dq (i:=a) (fun i _=>?_) f ?_
     . grind
     grind
   . rcases mem_or_eq_of_mem_set c with c | rfl
     . exact b x c
     . exact(b.get a).mt e
 . rw [if_neg d]
   exact⟨.refl _,b⟩
theorem tW {M N:Nat}:∀{l:List Int} {X:List Hd×Bool} {p:Nat},gY M N X.1->(∀t∈l,t.toNat<X.1.length)->jm M N X (ee X p l)∧gY M N (ee X p l).1
 | [],X,p,b,_=>⟨.refl _,b⟩
 | t :: l, X, p, b, f => by
   have c:=BX b (b.get p) (f t (ag));have d:=tW (l:=l) (p:=p) c.2 fun t e=>by rw[xh];grind
   exact⟨c.1.trans d.1,d.2⟩
theorem Gx {M N:Nat}{X:List Hd×Bool}{p:Nat}{f:Bool}{r a:Int}(b:gY M N X.1)(d:(mT.op f r a).Ok M N)(e:p+1<X.1.length):jm M N X (fJ X p f r a)∧gY M N (fJ X p f r a).1:=by
 unfold fJ;split
 . refine BX b ?_ e
   split
   . rename_i c;exact(b.get p).set (d c).1 ⟨c,(d c).2⟩
   exact b.get p
 exact⟨.refl _,b⟩
structure Sk.Pl (sk:Sk):Prop where
 hJ:∀l∈sk.hJ,∀t∈l,t.toNat≤sk.st.length
 fe:∀t∈sk.fe,t.toNat≤sk.st.length
theorem Vj {α:Type}{l:List (List α)}{p:Nat}{x:α}(h:x∈l.getD p []):l.getD p []∈l:=by
 grind
theorem Y5 {M N:Nat}{c:Sk}(n:c.Ok M N)(k:c.Pl){X:List Hd×Bool}{p:Nat}(d:gY M N X.1)(o:X.1.length=c.st.length+1)(h:p<c.st.length):jm M N X (jX c X p)∧gY M N (jX c X p).1:=by
 have m:c.st.getD p (.mv 0 0)∈c.st:=by grind
 have b:=n _ m;unfold jX;split
 . rename_i q s e
   rw[e] at b;exact BX d ((d.get p).move b) aa
 . rename_i f r a e
   rw[e] at b;have j:=Gx (p:=p) d b aa;have i:=tW (l:=c.hJ.getD p []) (p:=p) j.2 fun t g=>by
    rw[Be];have:=k.hJ _ (Vj g) t g;omega
   exact⟨j.1.trans i.1,i.2⟩
theorem yT {M N:Nat}{c:Sk}(j:c.Ok M N)(d:c.Pl){a:List Hd}(f:gY M N a)(g:a.length=c.st.length+1):∀{n:Nat},n≤c.st.length->jm M N (a,false) (dO c a n)∧gY M N (dO c a n).1
 | 0,_=>tW f fun t k=>by have:=d.fe t k;grind
 | n + 1, h => by
   have i:=yT j d f g (n:=n) aa;have e:=Y5 j d i.2 (by rw[yU,g]) (by omega:n<c.st.length)
   rw[qV];exact⟨i.1.trans e.1,e.2⟩
theorem B4 {M N:Nat}{b:Sk}(c:b.Ok M N)(d:b.Pl):∀{j:Nat},gY M N (iX b j)
 | 0=>fun h e=>by rw[eq_of_mem_replicate e];exact Ho
 | j+1=>(yT c d (B4 c d) xl (ag)).2
structure pz (I:Nat->Int->Int->Prop)(sk:Sk):Prop where
 mv:∀p x2 fr,sk.st[p]? = some (.mv x2 fr)->∀l r,I (p+1) l r->if l=x2 then I p fr r else I p l r
 op:∀p r0 a,sk.st[p]? = some (.op true r0 a)->∀l r,I (p+1) l r->if 0≤a then (if l=a then r=r0 else r≠r0∧I p l r) else I p l r
 hJ:∀p,p<sk.st.length->∀f r0 a,sk.st[p]? = some (.op f r0 a)->∀t∈sk.hJ.getD p [],∀l r,I t.toNat l r->I p l r
 fe:∀t∈sk.fe,∀l r,I t.toNat l r->I sk.st.length l r
def lT (I:Nat->Int->Int->Prop)(a:List Hd):Prop:=∀p l r,I p l r->((a.getD p cN).of l).has r=true
theorem BY {I:Nat->Int->Int->Prop}{X:List Hd×Bool}{a:Nat}{h:Hd}(b:lT I X.1)(f:∀l r,I a l r->(h.of l).has r=true):lT I (fC X a h).1:=by
 unfold fC;split
 . intro p l r c
   by_cases e:p=a
   . subst e
     rw[getD_eq_getElem?_getD,getElem?_set_self'];have g:=b p l r c;rw[getD_eq_getElem?_getD] at *;cases d:X.1[p]? with
     | none=>rfl
     | some y =>
       show((Hd.mt y h).of l).has r=true;rw[Hd.CB,aI.SF]
       grind
   . rw [getD_eq_getElem?_getD, getElem?_set_ne (Ne.symm e)]
     exact b p l r c
 omega
theorem z8 {I:Nat->Int->Int->Prop}{p:Nat}:∀{l:List Int} {X:List Hd×Bool},lT I X.1->(∀t∈l,∀x r,I t.toNat x r->I p x r)->lT I (ee X p l).1
 | [],X,b,_=>b
 | t::l,X,b,d=>z8 (l:=l) (BY b fun x r e=>b p x r (d t (ag) x r e)) fun t c=>d t (mem_cons_of_mem _ c)
theorem Y6 {I:Nat->Int->Int->Prop}{g:Sk}(k:pz I g){X:List Hd×Bool}{p:Nat}(c:lT I X.1)(o:p<g.st.length):lT I (jX g X p).1:=by
 have d:g.st[p]? = some (g.st.getD p (.mv 0 0)):=by rw[getD_eq_getElem?_getD,getElem?_eq_getElem o];rfl
 unfold jX;split
 . rename_i t q e
   rw[e] at d;refine BY c fun l r m=>?_
   have:=k.mv p t q d l r m;rw[Hd.V_];split
   . rename_i h;rw[if_pos h] at this;exact c p _ _ this
   . rename_i h;rw[if_neg h] at this;exact c p _ _ this
 . rename_i f j a e
   rw[e] at d;have s:lT I (fJ X p f j a).1:=by
    unfold fJ;split
    . rename_i h
      subst h;refine BY c fun l r m=>?_
      have:=k.op p j a d l r m;split
      . rename_i n
        rw[if_pos n] at this;rw[Hd.Wa];split
        . rename_i i
          rw[if_pos i] at this;rw[aI.qe];grind
        . rename_i i
          rw[if_neg i] at this;exact aI.SG.2 ⟨c p l r this.2,this.1⟩
      . rename_i n
        rw[if_neg n] at this;exact c p l r this
    . exact c
   exact z8 s (k.hJ p o f j a d)
theorem HO {I:Nat->Int->Int->Prop}{b:Sk}(c:pz I b):∀{j:Nat},lT I (iX b j)
 | 0 => fun p l r _ => by
   have:(uC b).getD p cN=cN:=by
    rw[getD_eq_getElem?_getD];cases e:(uC _)[p]? with
    | none=>rfl
    | some y=>exact eq_of_mem_replicate (mem_of_getElem? e)
   show(((uC _).getD p _).of l).has r=true;rw[this];rfl
 | j + 1 => by
   have k:∀n,n≤b.st.length->lT I (dO b (iX b j) n).1:=by
    intro n
    induction n with
    | zero=>intro _;exact z8 (HO c) c.fe
    | succ n i=>intro h;rw[qV];exact Y6 c (i aa) aa
   exact k _ (ag)
theorem j1.has {I:Nat->Int->Int->Prop}{b:Sk}(c:pz I b){a:List Hd}(h:j1 b a):lT I a:=by
 obtain⟨⟨j,rfl⟩,_⟩:=h;exact HO c
end Go.Ago
section
namespace Go.Ago
open Go.Proofs List Nat
theorem Yb {i:Ins}{w w':List Int}:aH (dY i w w')=if 0≤aH i then w'.getD (aH i).toNat 0 else aH i:=by
 have e:(dY i w w').op=i.op:=rfl;have a:(dY i w _).d=if 0≤aH i then w'.getD _ 0 else i.d:=rfl
 unfold aH at *
 grind
theorem Rn {i:Ins}{w w':List Int}:cQ (dY i w w')↔cQ i:=Iff.rfl
theorem W7 {i:Ins}{w w':List Int}:jq (dY i w w')↔jq i:=Iff.rfl
theorem ZB {i:Ins}{w w':List Int}:bT (dY i w w')=bT i:=rfl
theorem ZZ {i:Ins}{w w':List Int}(h:∀r∈aT i,0≤r∧0≤w.getD r.toNat 0):aT (dY i w w')=(aT i).map fun r=>w.getD r.toNat 0:=by
 have k:(dY i w w').a=dc w i.a:=rfl;have m:(dY i w w').b=dc w i.b:=rfl;have n:(dY i w w').l.l=i.l.l.map (dc w):=rfl;have o:(dY i w w').op=i.op:=rfl;have d:∀r∈aT i,dc w r=w.getD r.toNat 0:=fun r f=>by unfold dc;grind
 have one:∀(c:Prop) [Decidable c] (r:Int),(c∧r≠-1->r∈aT i)->(if c∧dc w r≠-1 then [dc w r] else [])=(if c∧r≠-1 then [r] else []).map fun r=>w.getD r.toNat 0:=by
  intro c _ r j;have p:dc w (-1) = -1:=by unfold dc;rw[if_pos aa]
  by_cases e:c
  . by_cases f : r = -1
    . grind
    . have g := j ⟨e, f⟩
      have s:=d r g;have t:=(h r g).2;have u:c∧dc w r≠-1:=⟨e,aa⟩
      grind
  . grind
 unfold aT at d ⊢;rw[k,m,n,o,map_append,map_append];rw[one _ i.a (fun e=>by unfold aT;grind),one _ i.b (fun e=>by unfold aT;grind)]
 congr 1
 by_cases q:hasB i.op 76=true
 . simp_all
 grind
theorem eB.quiet {R:Int->Prop}{a b:Ins}(h:eB R a b):jq b↔jq a:=by
 rcases h with rfl|⟨c,_,x,rfl⟩
 . rfl
 grind
def sb:Ins:=⟨3,0,0,-1,⟨0,0,0,false,[],ab⟩,⟨0,0,0,false,[],ab⟩,⟨0,0,0,false,[],ab⟩,0,0,0,⟨0,[],ab⟩,⟨[],ab⟩,⟨[],ab⟩,⟨[],ab⟩,false,false⟩
def o5 (x y:Ins)(o:Int):mT:=if o<0 then .mv y.d y.a else .op (decide (cQ y)) (aH x) (aH y)
def bQ (C:List Ins)(o:List Int)(g:Gr):Sk:=
 ⟨(List.range g.ins.l.length).map fun p=>o5 (C.getD (o.getD p 0).toNat sb) (g.ins.l.getD p sb) (o.getD p 0),(List.range g.ins.l.length).map (aX g),g.entries.l⟩
theorem iL {C:List Ins}{o:List Int}{g:Gr}:(bQ C o g).st.length=g.ins.l.length:=by simp[bQ]
theorem vf {C:List Ins}{o:List Int}{g:Gr}{p:Nat}{s:mT}(h:(bQ C o g).st[p]? = some s):p<g.ins.l.length∧s=o5 (C.getD (o.getD p 0).toNat sb) (g.ins.l.getD p sb) (o.getD p 0):=by
 simp only[bQ,getElem?_map] at h
 grind
theorem sS {C:List Ins}{o:List Int}{g:Gr}{p:Nat}(h:p<g.ins.l.length):(bQ C o g).hJ.getD p []=aX g p:=by
 simp[bQ,h]
theorem dL {α:Type}{l:List α}{p:Nat}{z:α}(h:p<l.length):l.getD p z=l[p]:=by grind
theorem mr {n p:Nat}(h:p<n):(bC n).getD p 0=(p:Int):=by simp[bC,h]
theorem Ob {g a:Gr}(c:a.ins.l.length=g.ins.l.length)(d:∀(p:Nat) (h:p<g.ins.l.length) (e:p<a.ins.l.length),bT a.ins.l[p]=bT g.ins.l[p]∧(jq a.ins.l[p]↔jq g.ins.l[p]))(b:∀x∈a.entries.l,x∈g.entries.l){p:Nat}{t:Int}(h:t∈aX a p):t∈aX g p:=by
 unfold aX at *
 grind
def px (g:Gr)(S:List (List aA))(W:Nat->List Int)(p:Nat)(l r:Int):Prop:=0≤r∧r<g.aj∧hP S p r.toNat∧(W p).getD r.toNat 0=l
section
variable {C:List Ins} {g gd:Gr} {S:List (List aA)} {k:Int} {W:Nat->List Int} {B:List Ins} {R R':Int->Prop}
theorem Bm (f:j2 g S k W B)(c:cT R C g.ins.l)(d:cT R' B gd.ins.l){p:Nat}(i:p<gd.ins.l.length) :
 ∃(a:p<g.ins.l.length) (h:p<C.length),eB R C[p] g.ins.l[p]∧eB R' (dY g.ins.l[p] (W p) (W (p+1))) gd.ins.l[p]:=by
 have b:p<B.length:=by rw[<-d.1];exact i
 have a:p<g.ins.l.length:=by rw[<-f.len];exact b
 have h:p<C.length:=by rw[<-c.1];exact a
 refine⟨a,h,c.2 p _ _,?_⟩;rw[<-f.row p _ _];exact d.2 p b _
theorem RE (c:j2 g S k W B)(e:cT R C g.ins.l)(b:cT R' B gd.ins.l)(f:∀x∈gd.entries.l,x∈g.entries.l){p:Nat}{t:Int}(h:t∈aX gd p):t∈aX g p:=
 Ob (b.1.trans c.len) (fun p i j=>by
  obtain⟨_,_,_,a⟩:=Bm c e b _;exact⟨by rw[a.nS,ZB],by rw[a.quiet,W7]⟩) f h
theorem RF (V:gz g)(F:fy g S)(i:j2 g S k W B)(J:cT R C g.ins.l)(D:cT R' B gd.ins.l)(T:∀x∈gd.entries.l,x∈g.entries.l):pz (px g S W) (bQ C (bC gd.ins.l.length) gd):=by
 have K:gd.ins.l.length=g.ins.l.length:=D.1.trans i.len;have u:∀(p:Nat),p≤g.ins.l.length->∀t∈aX gd p,∀l r,px g S W t.toNat l r->px g S W p l r:=fun p c t j l r ⟨d,s,N,Y⟩=>by
  have o:=RE i J D T j;refine⟨d,s,F.fix p _ c (.inr ⟨t,o,N⟩),?_⟩;rw[<-i.hJ p t o];exact Y
 refine⟨fun p t0 fr h=>?_,fun p q a h l r M=>?_,fun p c f q a _ t j l r=>?_,fun t j l r=>?_⟩
 . obtain ⟨c, e⟩ := vf h
   rw[mr c] at e;unfold o5 at e
   grind
 . obtain ⟨c, e⟩ := vf h
   obtain⟨d,s,O,H⟩:=Bm i J D c;rw[mr c] at e;unfold o5 at e;rw[if_neg aa,Int.toNat_natCast,dL s,dL c] at e;simp only[mT.op.injEq] at e;obtain⟨X,v,G⟩:=e;have w:cQ g.ins.l[p]:=by
    have:=H.rR.1 (of_decide_eq_true X.symm);exact Rn.1 this
   rw[<-O.ga] at v;rw[H.ga,Yb] at G;obtain⟨P,Q,y,U⟩:=M;have m:((r.toNat:Nat):Int)=r:=aa;have I:=V.ok.ga _ (getElem_mem d);have A:r≠q->px g S W p l r:=fun z=>by
    have b:((r.toNat:Nat):Int)≠aH g.ins.l[p]:=by rw[m,<-v];exact z
    refine⟨P,Q,F.fix p _ aa (.inl ⟨d,.inl ⟨w,y,b⟩⟩),?_⟩;rw[<-i.HR p d d w r.toNat aa y b];exact U
   by_cases E:0≤aH g.ins.l[p]
   . rw [if_pos E] at G
     have Z:=i.dst p d d E;unfold eO at Z;rw[if_pos aa]
     by_cases hr:r=q
     . grind
     . have b : ((r.toNat : Nat) : Int) ≠ aH g.ins.l[p] := by rw [m, <-v]; exact hr
       rw[if_neg (fun hl=>i.sep p d d w E r.toNat aa y b aa)]
       grind
   grind
 . rw [iL] at c
   rw[sS c] at j
   grind
 . rw [iL]
   refine u _ aa t ?_ l r;unfold aX;rw[dif_neg aa];exact j
theorem RG (o:gz g)(s:fy g S)(j:j2 g S k W B)(q:cT R C g.ins.l)(t:cT R' B gd.ins.l){p:Nat}(v:p<gd.ins.l.length)(w:p<C.length) :
 (aT gd.ins.l[p])=(aT C[p]).map (fun r=>(W p).getD r.toNat 0)∧∀r∈aT C[p],px g S W p ((W p).getD r.toNat 0) r∧eO (W p) k r:=by
 obtain⟨i,x,h,u⟩:=Bm j q t v;have f:∀r∈aT g.ins.l[p],0≤r∧r<g.aj∧hP S p r.toNat:=fun r d=>by
  have:=o.ok.jj _ (getElem_mem i) r d;exact⟨this.1,this.2,s.fix p _ aa (.inl ⟨i,.inr aY⟩)⟩
 have m:∀r∈aT g.ins.l[p],eO (W p) k r:=fun r d=>by
  obtain⟨a,b,c⟩:=f r d;have:=j.jK p aa r.toNat aa c
  grind
 refine⟨?_,fun r d=>?_⟩
 . rw[u.jj,ZZ fun r d=>⟨(f r d).1,(m r d).1⟩,h.jj]
 . rw [<-h.jj] at d
   obtain⟨a,b,c⟩:=f r d;exact⟨⟨a,b,c,rfl⟩,m r d⟩
end
end Go.Ago
end
section
namespace Go.Ago
open Go.Proofs List Nat
theorem ZC {i:Ins}{tl:List Int}:bT (cA i tl)=(bT i).map fun t=>tl.getD t.toNat 0:=by
 unfold cA
 by_cases b:i.op=14∨i.op=15
 . rw [if_pos b]
   unfold bT
   grind
 . rw [if_neg b]
   by_cases a:i.op=28∨i.op=29
   . rw [if_pos a]
     unfold bT
     grind
   . rw [if_neg a]
     unfold bT
     grind
theorem ve {i:Ins}{tl:List Int}:(cA i tl).op=i.op∧(cA i tl).d=i.d∧(cA i tl).a=i.a∧(cA i tl).b=i.b∧(cA i tl).l=i.l∧(cA i tl).p=i.p:=by
 unfold cA
 grind
theorem Yc {a b:Ins}(e:b.op=a.op)(c:b.d=a.d):aH b=aH a:=by unfold aH;grind
theorem Z0 {a b:Ins}(d:b.op=a.op)(e:b.a=a.a)(f:b.b=a.b)(c:b.l=a.l):aT b=aT a:=by unfold aT;grind
theorem Ro {a b:Ins}(c:b.op=a.op):cQ b↔cQ a:=aa
def pE (k N l r:Int):Prop:=0≤r∧r<N∧l=k+r
def e7 (k N:Int)(i:Ins)(s:Nat)(l r:Int):Prop:=
 if s≤bS i then pE k N l r∨(0<s∧0≤i.a∧l=0∧r=i.a)∨(s=bS i∧cD i∧l=1∧r=i.b)
 else (pE k N l r∧r≠i.d)∨(l=2∧r=i.d)
def eN (k N:Int)(G:List Ins)(p:Nat)(l r:Int):Prop:=
 ∃n s,p=cO k G n+s∧((∃h:n<G.length,s<(bY k G[n]).length∧e7 k N G[n] s l r)∨(n=G.length∧s=0∧pE k N l r))
theorem e7.zero {k N:Int}{i:Ins}{l r:Int}:e7 k N i 0 l r↔pE k N l r:=by
 refine⟨fun h=>h.elim id fun h=>h.elim (ag) fun h=>?_,.inl⟩
 unfold bS at *
 grind
theorem e7.slot {k N:Int}{i:Ins}{s:Nat}{l r:Int}(h:s≤bS i)(a:pE k N l r):e7 k N i s l r:=by unfold e7;grind
theorem eN.at_ {k N:Int}{G:List Ins}{n s:Nat}(c:n<G.length)(b:s<(bY k G[n]).length){l r:Int}:eN k N G (cO k G n+s) l r↔e7 k N G[n] s l r:=by
 refine⟨fun ⟨m,t,e,h⟩=>?_,fun h=>⟨n,s,rfl,.inl ⟨c,b,h⟩⟩⟩
 rcases h with⟨d,a,h⟩|⟨d,a,h⟩
 . obtain ⟨rfl, rfl⟩ := wD _ aa b (fun _ => a) (fun e => aa) e
   exact h
 obtain⟨rfl,rfl⟩:=wD c aa b (fun h=>aa) (fun _=>a) e
 omega
theorem eN.start {k N:Int}{G:List Ins}{n:Nat}(b:n≤G.length){l r:Int}:eN k N G (cO k G n) l r↔pE k N l r:=by
 by_cases h:n<G.length
 . have := @eN.at_ k N G n 0 h An.1 l r
   rw[Nat.add_zero] at *;rw[this,e7.zero]
 . have b : n = G.length := aa
   subst b;refine⟨fun ⟨m,t,e,a⟩=>?_,fun a=>⟨G.length,0,rfl,.inr ⟨rfl,rfl,a⟩⟩⟩
   rcases a with⟨f,d,_⟩|⟨_,_,a⟩
   . have := wD _ (Nat.le_refl _) d (ag) (fun _ => rfl) aa
     omega
   omega
theorem eN.next {k N:Int}{G:List Ins}{n s:Nat}(a:n<G.length)(b:s+1=(bY k G[n]).length){l r:Int}:eN k N G (cO k G n+s+1) l r↔pE k N l r:=by
 rw[show cO k G n+s+1=cO k G _ from by rw[vk a];omega]
 exact eN.start a
structure tJ (N:Int)(i:Ins):Prop where
 a:i.a = -1∨(0≤i.a∧i.a<N)
 b:i.b = -1∨(0≤i.b∧i.b<N)
 d:i.d = -1∨(0≤i.d∧i.d<N)
 l:∀r∈i.l.l,0≤r∧r<N
 hd:0≤i.d->hasB i.op 68=true
 mv:i.op=3->0≤i.a∧0≤i.d∧i.b = -1
section
variable {k N:Int} {G C:List Ins} {gd:Gr} {tl:List Int} {R R':Int->Prop}
structure mJ (k N:Int)(G:List Ins)(tl:List Int)(R':Int->Prop)(gd:Gr):Prop where
 hk:4≤k
 ins:∀i∈G,tJ N i
 rows:cT R' ((dA k G).map fun i=>cA i tl) gd.ins.l
 nS:∀i∈G,∀t∈bT i,∃n,n≤G.length∧tl.getD t.toNat 0=(cO k G n:Int)
 fe:∀x∈gd.entries.l,∃n,n≤G.length∧x=(cO k G n:Int)
theorem mJ.at_ (h:mJ k N G tl R' gd){p:Nat}(c:p<gd.ins.l.length):∃n s,∃b:n<G.length,s<(bY k G[n]).length∧p=cO k G n+s∧∃y,(bY k G[n])[s]? = some y∧eB R' (cA y tl) gd.ins.l[p]:=by
 have g:gd.ins.l.length=(dA k G).length:=by rw[h.rows.1,length_map]
 obtain⟨n,s,b,d,e⟩:=AW (k:=k) (l:=G) (p:=p) (Nat.le_refl _) (by rw[y3];omega)
 have i:=h.rows.2 p aY c;have f:=EY (k:=k) b d
 grind
theorem Yd {i:Ins}(h:tJ N i):aH (xF k i)=if 0≤i.d then (if i.op=3 then k+i.d else 2) else -1:=by
 have e:(xF k i).op=i.op:=rfl;have g:(xF k i).d=if dD i then 2 else aP k i.d:=rfl
 unfold aH;rw[e,g]
 by_cases a:0≤i.d
 . rw [if_pos (h.hd a), if_pos a]
   by_cases f:i.op=3
   . rw[if_pos f,if_neg (fun c=>c.1 f),jY a]
   omega
 . rw [if_neg a]
   have b:i.d = -1:=by rcases h.d with e|e<;>omega
   rw[if_neg (fun c:dD i=>a c.2),mE aa,b]
   simp
theorem KM {i:Ins}(h:tJ N i):aH i=i.d:=by
 unfold aH
 by_cases a:0≤i.d
 . rw[if_pos (h.hd a)]
 have:i.d = -1:=by rcases h.d with e|e<;>omega
 omega
theorem mJ.step (h:mJ k N G tl R' gd)(A:cT R C G){p:Nat}{f:mT}(t:(bQ C (cJ k 0 G) gd).st[p]? = some f) :
 ∃n s,∃c:n<G.length,s<(bY k G[n]).length∧p=cO k G n+s ∧
  ((s = 0 ∧ s < bS G[n] ∧ 0 ≤ G[n].a ∧ f = .mv 0 (k + G[n].a)) ∨ (s + 1 = bS G[n] ∧ cD G[n] ∧ f = .mv 1 (k + G[n].b)) ∨
   (s=bS G[n]∧f = .op (decide (cQ G[n])) G[n].d (if 0≤G[n].d then (if G[n].op=3 then k+G[n].d else 2) else -1))∨(s=bS G[n]+1∧(bY k G[n]).length=s+1∧dD G[n]∧f = .mv (k+G[n].d) 2)):=by
 obtain⟨v,e⟩:=vf t;obtain⟨n,s,c,w,E,y,L,o⟩:=h.at_ v;refine⟨n,s,c,w,E,?_⟩;have z:=Cy (k:=k) c w;rw[<-E] at z;have l:(cJ k 0 G).getD p 0=if s=bS G[n] then (n:Int) else -1:=by rw[getD_eq_getElem?_getD,z];rfl
 rw[l,dL v] at e;have K:∀d a:Int,y=cq d a->s≠bS G[n]->f = .mv d a:=fun d a m q=>by
  rw[if_neg q] at e;unfold o5 at e;rw[if_pos aa] at e;obtain⟨P,Q,M,I,_⟩:=o.key;obtain⟨_,r,x,_⟩:=@ve y tl;rw[e,M,I,r,x,m];rfl
 rcases t_ L with⟨g,j,B,J⟩|⟨g,j,B⟩|⟨g,j⟩|⟨g,j,B,J⟩
 . grind
 . grind
 . refine .inr (.inr (.inl ⟨g, ?_⟩))
   have D:=h.ins _ (getElem_mem c);have i:n<C.length:=by rw[<-A.1];exact c
   have u:=A.2 n i c;rw[if_pos g] at e;unfold o5 at e;rw[if_neg aa,Int.toNat_natCast,dL i] at e;obtain⟨F,r,x,S,T,O⟩:=@ve y tl;rw[e,o.ga,Yc F r,j,Yd D,<-u.ga,KM D]
   congr 1
   refine decide_eq_decide.2 ?_;rw[o.rR,Ro F,j];rfl
 grind
theorem mJ.aside (h:mJ k N G tl R' gd){n s:Nat}(A:n<G.length)(u:s=bS G[n]){p:Nat}(j:p<gd.ins.l.length)(z:p=cO k G n+s){t:Int}(g:t∈aX gd p):∃m,m≤G.length∧t=(cO k G m:Int):=by
 obtain⟨r,D,d,c,f,y,v,w⟩:=h.at_ j;obtain⟨rfl,rfl⟩:=wD (k:=k) d aa c (fun _=>by rw[u,pK];omega) (fun e=>aa) (f.symm.trans z)
 have i:y=xF k G[r]:=by
  rcases t_ v with⟨q,o,_⟩|⟨q,_⟩|⟨_,o⟩|⟨q,_⟩
  . omega
  . omega
  . exact o
  . omega
 unfold aX at g;rw[dif_pos j] at g;have a:t∈bT gd.ins.l[p]∨t∈gd.entries.l:=by
  split at g
  . grind
  . grind
 rcases a with a|a
 . rw [w.nS, ZC, i] at a
   obtain⟨B,x,rfl⟩:=mem_map.1 a;exact h.nS _ (getElem_mem A) B x
 . exact h.fe t a
theorem OH (h:mJ k N G tl R' gd)(F:cT R C G):pz (eN k N G) (bQ C (cJ k 0 G) gd):=by
 have hl:gd.ins.l.length=(dA k G).length:=by rw[h.rows.1,length_map]
 have hk:=h.hk;refine⟨fun p t0 fr j l r c=>?_,fun p r0 a j l r c=>?_,fun p hp f r0 a j t D l r c=>?_,fun t D l r c=>?_⟩
 . obtain ⟨n, s, i, o, w, z⟩ := h.step F j
   have u:=h.ins _ (getElem_mem i);subst w;have H:=@pK k G[n];rcases z with⟨v,B,A,g⟩|⟨v,B,g⟩|⟨_,g⟩|⟨v,B,A,g⟩
   . cases g
     subst v;have J:G[n].a<N:=by rcases u.a with e|e<;>omega
     rw[eN.at_ i o,eN.at_ i o,e7.zero,e7.zero];rw[show cO k G n+0+1=cO k G n+1 from rfl,eN.at_ i aa] at c
     unfold e7 at c;rw[if_pos aa] at c;rcases c with c|⟨_,_,q,y⟩|⟨q,y,_,_⟩
     . rw [if_neg (by have := c.2.2; have := c.1; omega)]
       exact c
     . rw [if_pos q, y]
       exact⟨A,J,rfl⟩
     . unfold bS at q
       grind
   . cases g
     have I:G[n].b<N:=by rcases u.b with e|e<;>have:=B.2.1<;>omega
     rw[eN.at_ i o,eN.at_ i o];rw[show cO k G n+s+1=cO k G n+(s+1) from rfl,eN.at_ i aa] at c
     unfold e7 at c;rw[if_pos aa] at c;rcases c with c|⟨q,y,h7,h8⟩|⟨q,y,h7,h8⟩
     . rw [if_neg (by have := c.2.2; have := c.1; omega)]
       exact e7.slot aa c
     . rw [if_neg aa]
       have:s≠0:=fun e=>by
        subst e;unfold bS at v
        grind
       unfold e7
       grind
     . rw [if_pos h7, h8]
       exact e7.slot aa ⟨B.2.1,I,rfl⟩
   . cases g
   . cases g
     rw[eN.at_ i o,eN.at_ i o];rw[eN.next i B.symm] at c
     by_cases e:l=k+G[n].d
     . rw [if_pos e]
       unfold e7;rw[if_neg aa];exact .inr ⟨rfl,by have:=c.2.2;omega⟩
     . rw [if_neg e]
       unfold e7;rw[if_neg aa];exact .inl ⟨c,fun x=>e (by rw[c.2.2,x])⟩
 . obtain ⟨n, s, i, o, w, z⟩ := h.step F j
   have u:=h.ins _ (getElem_mem i);subst w;have H:=@pK k G[n];rcases z with⟨_,_,_,g⟩|⟨_,_,g⟩|⟨v,g⟩|⟨_,_,_,g⟩
   . cases g
   . cases g
   . simp only [mT.op.injEq] at g
     obtain⟨_,e1,x⟩:=g;rw[eN.at_ i o]
     by_cases hd:0≤G[n].d
     . rw [if_pos hd] at x
       by_cases A:G[n].op=3
       . rw [if_pos A] at x
         rw[eN.next i aY] at c;rw[if_pos aa];split
         . rename_i e;have:=c.2.2;omega
         . rename_i e
           exact⟨fun e3=>e (by have:=c.2.2;omega),e7.slot aa c⟩
       . rw [if_neg A] at x
         rw[show cO k G n+s+1=cO k G n+(s+1) from rfl,eN.at_ i aY] at c
         unfold e7 at c;rw[if_neg aa] at c;rw[if_pos aa];rcases c with⟨q,y⟩|⟨q,y⟩
         . rw [if_neg (by have := q.2.2; have := q.1; omega)]
           exact⟨aa,e7.slot aa q⟩
         grind
     . rw [if_neg hd] at x
       rw[eN.next i aY] at c;rw[if_neg aa];exact e7.slot aa c
   grind
 . obtain ⟨n, s, i, o, w, z⟩ := h.step F j
   rw[iL] at hp;rw[sS hp] at D;rcases z with⟨_,_,_,g⟩|⟨_,_,g⟩|⟨v,_⟩|⟨_,_,_,g⟩
   . cases g
   . cases g
   . obtain ⟨m, E, rfl⟩ := h.aside i v hp w D
     rw[Int.toNat_natCast,eN.start E] at c;rw[w,eN.at_ i o];exact e7.slot aa c
   grind
 . obtain ⟨m, E, rfl⟩ := h.fe t D
   rw[Int.toNat_natCast,eN.start E] at c;rw[iL,hl,<-y3,eN.start (Nat.le_refl _)];exact c
end
end Go.Ago
end
section
namespace Go.Ago
open Go.Proofs List Nat
def Reads (P:Int->Int->Prop)(us ws:List Int):Prop:=us.length=ws.length∧∀(m:Nat) (l r:Int),us[m]? = some l->ws[m]? = some r->P l r
theorem Reads.nil {P:Int->Int->Prop}:Reads P [] []:=⟨rfl,fun m l r h=>ag⟩
theorem Reads.one {P:Int->Int->Prop}{l r:Int}(h:P l r):Reads P [l] [r]:=⟨rfl,fun m b c d a=>by
 grind⟩
theorem Reads.app {P:Int->Int->Prop}{a b c d:List Int}(e:Reads P a b)(i:Reads P c d):Reads P (a++c) (b++d):=⟨by rw[length_append,length_append,e.1,i.1],fun m l r g f=>by
 by_cases h:m<a.length
 . rw [getElem?_append_left h] at *
   rw[getElem?_append_left (by rw[<-e.1];exact h)] at *
   exact e.2 m l r g f
 rw[getElem?_append_right aa] at g;rw[getElem?_append_right (by have:=e.1;omega),<-e.1] at f
 exact i.2 _ l r g f⟩
theorem Reads.map {P:Int->Int->Prop}{f:Int->Int}{ws:List Int}(h:∀r∈ws,P (f r) r):Reads P (ws.map f) ws:=⟨length_map _,fun m l r b a=>by
 grind⟩
theorem Reads.mono {P Q:Int->Int->Prop}(h:∀l r,P l r->Q l r){a b:List Int}(c:Reads P a b):Reads Q a b:=⟨c.1,fun m l r e d=>h _ _ (c.2 m l r e d)⟩
theorem Reads.at_ {P:Int->Int->Prop}{a b:List Int}(h:Reads P a b){r:Int}{m:Nat}(c:b[m]? = some r):∃l,a[m]? = some l∧P l r:=by
 have e:=(List.getElem?_eq_some_iff.1 c).1;have d:m<a.length:=by rw[h.1];exact e
 exact⟨a[m],getElem?_eq_getElem _,h.2 m _ r (ag) c⟩
theorem Reads.if {P:Int->Int->Prop}{c c':Prop}[Decidable c][Decidable c']{l r:Int}(h:c↔c')(b:c'->P l r):Reads P (if c then [l] else []) (if c' then [r] else []):=by
 by_cases a:c'
 . rw[if_pos (h.2 a),if_pos a];exact .one (b a)
 rw[if_neg (fun x=>a (h.1 x)),if_neg a];exact .nil
section
variable {k N:Int} {i:Ins}
theorem zar (u:4≤k)(h:tJ N i):Reads (e7 k N i (bS i)) (aT (xF k i)) (aT i):=by
 have n:(xF k i).op=i.op:=rfl;have m:(xF k i).a=if 0≤i.a then 0 else aP k i.a:=rfl
 have o:(xF k i).b=if i.op≠3∧0≤i.b then (if i.b=i.a then 0 else 1) else aP k i.b:=rfl
 have q:(xF k i).l.l=i.l.l.map (aP k):=rfl;have t:0≤i.a->e7 k N i (bS i) 0 i.a:=fun f=>by
  unfold e7;rw[if_pos (Nat.le_refl _)];refine .inr (.inl ⟨?_,f,rfl,rfl⟩);unfold bS
  grind
 unfold aT;rw[n,m,o,q];refine Reads.app (Reads.app ?_ ?_) ?_
 . refine Reads.if ?_ ?_
   . refine and_congr_right fun _ => ?_
     rcases h.a with e|e
     . rw[if_neg aa,mE aa]
     omega
   . rintro ⟨_, p⟩
     have f:0≤i.a:=by rcases h.a with e|e<;>omega
     grind
 . refine Reads.if ?_ ?_
   . refine and_congr_right fun _ => ?_
     rcases h.b with e|e
     . rw[if_neg aa,mE aa]
     . have d : i.op ≠ 3 := fun j => by have := (h.mv j).2.2; omega
       omega
   . rintro ⟨_, p⟩
     have f:0≤i.b:=by rcases h.b with e|e<;>omega
     have d:i.op≠3:=fun j=>by have:=(h.mv j).2.2;omega
     rw[if_pos ⟨d,f⟩]
     by_cases g:i.b=i.a
     . grind
     . rw [if_neg g]
       unfold e7
       grind
 . split
   . refine Reads.map fun r s => ?_
     have:=h.l r s;rw[jY this.1];exact e7.slot (Nat.le_refl _) ⟨this.1,this.2,rfl⟩
   . exact .nil
end
section
variable {k N:Int} {G C:List Ins} {gd:Gr} {tl:List Int} {R R':Int->Prop}
theorem OJ (h:mJ k N G tl R' gd)(z:cT R C G){p n:Nat}(B:p<gd.ins.l.length)(t:(cJ k 0 G).getD p 0=(n:Int))(x:n<C.length):Reads (eN k N G p) (aT gd.ins.l[p]) (aT C[n]):=by
 obtain⟨m,s,f,j,q,y,v,w⟩:=h.at_ B;have c:=Cy (k:=k) f j;rw[<-q] at c;have d:(cJ k 0 G).getD p 0=if s=bS G[m] then (m:Int) else -1:=by rw[getD_eq_getElem?_getD,c];rfl
 rw[d] at t;have b:s=bS G[m]:=by
  by_cases e:s=bS G[m]
  . exact e
  . omega
 rw[if_pos b] at t;have:m=n:=aa;subst this;have g:y=xF k G[m]:=by
  rcases t_ v with⟨o,u,_⟩|⟨o,_⟩|⟨_,u⟩|⟨o,_⟩
  . omega
  . omega
  . exact u
  . omega
 obtain⟨D,_,E,F,H,_⟩:=@ve y tl;rw[w.jj,Z0 D E F H,g,<-(z.2 m x f).jj];have:=zar h.hk (h.ins _ (getElem_mem f));rw[<-b] at this;exact this.mono fun l r A=>by rw[q];exact(eN.at_ f j).2 A
theorem RH {g:Gr}{S:List (List aA)}{W:Nat->List Int}{B:List Ins}(h:gz g)(c:fy g S)(d:j2 g S k W B)(e:cT R C g.ins.l)(f:cT R' B gd.ins.l){p:Nat}(n:p<gd.ins.l.length)(j:p<C.length) :
 Reads (px g S W p) (aT gd.ins.l[p]) (aT C[p]):=by
 obtain⟨i,m⟩:=RG h c d e f _ _;rw[i];exact Reads.map fun r b=>(m r b).1
end
end Go.Ago
end
