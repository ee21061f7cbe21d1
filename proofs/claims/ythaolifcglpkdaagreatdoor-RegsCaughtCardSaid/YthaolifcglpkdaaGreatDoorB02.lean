/-
  Part B02: lemmas, each with its own conditions.
-/
import Derived.Laws.NewFold
import Derived.Test.YthaolifcglpkdaaGreatDoorB01
set_option maxRecDepth 100000
set_option maxHeartbeats 0
set_option linter.all false
namespace Go.Ago
open List Nat
structure Hd where
 own:List (Int×aI)
 rest:aI
def Hd.keys (h:Hd):List Int:=h.own.map (·.1)
def Hd.of (h:Hd)(k:Int):aI:=match h.own.find? (fun p=>decide (p.1=k)) with
 | some p=>p.2
 | none=>h.rest
def mA (b:List Int)(f:Int->aI)(a:aI):Hd:=⟨b.map fun k=>(k,f k),a⟩
theorem Ie {b:List Int}{f:Int->aI}{a:aI}:(mA b f a).keys=b:=by
 unfold Hd.keys mA;rw[zcz];exact map_id _
theorem uW {f:Int->aI}{a:aI}{k:Int}:∀{c:List Int},(mA c f a).of k=if k∈c then f k else a
 | []=>rfl
 | x :: c => by
   have d:=@uW f a k c;unfold Hd.of mA at *
   grind
theorem Hd.xR {h:Hd}{k:Int}(b:k∉h.keys):h.of k=h.rest:=by
 unfold Hd.of;rw[find?_eq_none.2 fun p a=>by
  simp;intro e;exact b (zbG.2 ⟨p,a,e⟩)]
theorem G0:∀{l:List (Int×aI)} {k:Int} {s:aI},bk (l.map (·.1))->(k,s)∈l->l.find? (fun p=>decide (p.1=k))=some (k,s)
 | (a, x) :: l, k, s, f, d => by
   have c:=bk.cons.1 f;rw[find?_cons];rcases zbB.1 d with e|d
   . grind
   . have := c.1 k (zbG.2 ⟨_, d, rfl⟩)
     rw[zbT bj];exact G0 c.2 d
theorem Hd.Jg {h:Hd}(hi:bk h.keys){k:Int}{s:aI}(a:(k,s)∈h.own):h.of k=s:=by
 unfold Hd.of;rw[G0 hi a]
def Hd.set (h:Hd)(r a:Int):Hd:=mA (jN h.keys a) (fun k=>if k=a then ⟨false,[r]⟩ else (h.of k).wo r) (h.rest.wo r)
def Hd.move (h:Hd)(a fr:Int):Hd:=mA (jN h.keys a) (fun k=>if k=a then h.of fr else h.of k) h.rest
def Hd.mt (h o:Hd):Hd:=mA (jl h.keys o.keys) (fun k=>(h.of k).mt (o.of k)) (h.rest.mt o.rest)
theorem Hd.WI {h:Hd}{r a k:Int}:(h.set r a).of k=if k=a then ⟨false,[r]⟩ else (h.of k).wo r:=by
 unfold Hd.set;rw[uW]
 by_cases c:k∈jN h.keys a
 . grind
 have d:=fun e=>c (hZ.2 (.inl e))
 have b:=fun e=>c (hZ.2 (.inr e))
 rw[if_neg c,if_neg d,Hd.xR b]
theorem Hd.WH {h:Hd}{b fr k:Int}:(h.move b fr).of k=if k=b then h.of fr else h.of k:=by
 unfold Hd.move;rw[uW]
 by_cases c:k∈jN h.keys b
 . grind
 have d:=fun e=>c (hZ.2 (.inl e))
 have a:=fun e=>c (hZ.2 (.inr e))
 rw[if_neg c,if_neg d,Hd.xR a]
theorem Hd.CS {h o:Hd}{k:Int}:(h.mt o).of k=(h.of k).mt (o.of k):=by
 unfold Hd.mt;rw[uW]
 by_cases a:k∈jl h.keys o.keys
 . grind
 rw[if_neg a,Hd.xR fun e=>a (jz.2 (.inl e)),Hd.xR fun e=>a (jz.2 (.inr e))]
def aI.same (s o:aI):Bool:=decide (s.all=o.all) && decide (s.l=o.l)
theorem aI.KH {s o:aI}:s.same o=true↔s=o:=by
 obtain⟨a,l⟩:=s;obtain⟨b,m⟩:=o;simp[aI.same]
def Hd.dz (h o:Hd):Bool:=!(h.rest.mt o.rest).same h.rest || (jl h.keys o.keys).any fun k=>!((h.of k).mt (o.of k)).same (h.of k)
structure Hd.Ok (M N:Int)(h:Hd):Prop where
 inc:bk h.keys
 bd:∀k∈h.keys,0≤k∧k<M
 all:∀k,(h.of k).Ok N
 rest:h.rest.Ok N
theorem D3 {M N:Int}{b:List Int}{f:Int->aI}{a:aI}(d:bk b)(e:∀k∈b,0≤k∧k<M)(g:∀k,(f k).Ok N)(c:a.Ok N):(mA b f a).Ok M N:=
 ⟨by rw[Ie];exact d,by rw[Ie];exact e,fun k=>by rw[uW];grind,c⟩
theorem Hd.Ok.set {M N:Int}{h:Hd}(b:h.Ok M N){r a:Int}(c:0≤r∧r<N)(f:0≤a∧a<M):(h.set r a).Ok M N:=
 D3 (oA b.inc) (fun k d=>(hZ.1 d).elim (fun e=>aa) (b.bd k)) (fun k=>by split;exact aI.Ok.one c;exact(b.all k).wo c) (b.rest.wo c)
theorem Hd.Ok.move {M N:Int}{h:Hd}(a:h.Ok M N){b fr:Int}(d:0≤b∧b<M):(h.move b fr).Ok M N:=
 D3 (oA a.inc) (fun k c=>(hZ.1 c).elim (fun e=>aa) (a.bd k)) (fun k=>by split;exact a.all _;exact a.all k) a.rest
theorem Hd.Ok.mt {M N:Int}{h o:Hd}(b:h.Ok M N)(a:o.Ok M N):(h.mt o).Ok M N:=
 D3 (r_ a.inc) (fun k c=>(jz.1 c).elim (b.bd k) (a.bd k)) (fun k=>(b.all k).mt (a.all k)) (b.rest.mt a.rest)
def cb:Hd:=⟨[],⟨true,[]⟩⟩
theorem HH {M N:Int}:cb.Ok M N:=⟨bk.nil,fun k a=>(by cases a),fun _=>aI.Ok.top,aI.Ok.top⟩
def qN (f:Nat->Nat):Nat->Nat
 | 0=>0
 | n+1=>qN f n+f n
theorem DN {f g:Nat->Nat}:∀{n:Nat},(∀i,i<n->f i≤g i)->qN f n≤qN g n
 | 0,_=>zbm _
 | n+1,h=>add_le_add (DN fun i b=>h i aa) (h n aa)
theorem DO {f g:Nat->Nat}:∀{n i:Nat},(∀i,i<n->f i≤g i)->i<n->f i<g i->qN f n<qN g n
 | n + 1, i, h, d, b => by
   by_cases e:i=n
   . subst e;exact Nat.add_lt_add_of_le_of_lt (DN fun j c=>h j aa) b
   exact Nat.add_lt_add_of_lt_of_le (DO (fun j c=>h j aa) aa b) (h n aa)
def Hd.rk (M N:Nat)(h:Hd):Nat:=h.rest.rk N+qN (fun l=>(h.of l).rk N) M
theorem Hd.u7 {M N:Nat}{h o:Hd}(c:h.Ok M N)(d:o.Ok M N):h.dz o=true->(h.mt o).rk M N<h.rk M N:=by
 intro a;have r:=aI.u7 c.rest d.rest;have m:∀i:Nat,i<M->((h.mt o).of i).rk N≤(h.of i).rk N:=fun i _=>by rw[Hd.CS];exact(aI.u7 (c.all i) (d.all i)).1
 have q:=DN m;have p:(h.mt o).rest=h.rest.mt o.rest:=rfl;unfold Hd.rk;rw[p];unfold Hd.dz at a;rw[zbQ] at a;rcases a with a|a
 . have b : h.rest.mt o.rest ≠ h.rest := fun e => by rw [aI.KH.2 e] at a; cases a
   grind
 . obtain ⟨k, g, j⟩ := any_eq_true.1 a
   have s:0≤k∧k<(M:Int):=(jz.1 g).elim (c.bd k) (d.bd k);have l:((k.toNat:Nat):Int)=k:=aa;have n:=aI.u7 (c.all k) (d.all k);have b:(h.of k).mt (o.of k)≠h.of k:=fun e=>by rw[aI.KH.2 e] at j;grind
   have f:((h.mt o).of ((k.toNat:Nat):Int)).rk N<(h.of ((k.toNat:Nat):Int)).rk N:=by
    rw[l,Hd.CS];have:((h.of k).mt (o.of k)).rk N≠(h.of k).rk N:=fun e=>b (n.2 e)
    have:=n.1;omega
   have:=DO m (i:=k.toNat) aa f;omega
inductive mS|mv (x2 fr:Int)|op (uu:Bool) (r a:Int)
structure Sk where
 st:List mS
 iU:List (List Int)
 fw:List Int
def fF (X:List Hd×Bool)(a:Nat)(h:Hd):List Hd×Bool:=
 if (X.1.getD a cb).dz h=true then (X.1.set a ((X.1.getD a cb).mt h),true) else X
def ei (X:List Hd×Bool)(a:Nat)(l:List Int):List Hd×Bool:=l.foldl (fun X t=>fF X t.toNat (X.1.getD a cb)) X
def fP (X:List Hd×Bool)(c:Nat)(b:Bool)(r a:Int):List Hd×Bool:=
 if b=true then fF X (c+1) (if 0≤a then (X.1.getD c cb).set r a else X.1.getD c cb) else X
def jY (d:Sk)(X:List Hd×Bool)(b:Nat):List Hd×Bool:=match d.st.getD b (.mv 0 0) with
 | .mv e f=>fF X (b+1) ((X.1.getD b cb).move e f)
 | .op c r a=>ei (fP X b c r a) b (d.iU.getD b [])
def dQ (b:Sk)(a:List Hd)(n:Nat):List Hd×Bool:=(List.range n).foldl (jY b) (ei (a,false) b.st.length b.fw)
def ga (b:Sk)(a:List Hd):List Hd×Bool:=dQ b a b.st.length
def uI (a:Sk):List Hd:=replicate (a.st.length+1) cb
def i_ (b:Sk):Nat->List Hd
 | 0=>uI b
 | j+1=>(ga b (i_ b j)).1
def gk (b:Sk)(a:List Hd):Prop:=(∃j,a=i_ b j)∧ga b a=(a,false)
theorem Cj {c:Sk}{j:Nat}{a:List Hd}(h:a=i_ c j)(d:ga c a=(a,false)):∀m,i_ c (j+m)=a
 | 0=>h.symm
 | m+1=>by show(ga _ (i_ _ (j+m))).1=a;rw[Cj h d m,d]
theorem gk.uniq {c:Sk}{a b:List Hd}(e:gk c a)(f:gk c b):a=b:=by
 obtain⟨⟨j,g⟩,d⟩:=e;obtain⟨⟨k,i⟩,h⟩:=f;have m:=Cj g d k;have l:=Cj i h j
 grind
theorem xr {X:List Hd×Bool}{a:Nat}{h:Hd}:(fF X a h).1.length=X.1.length:=by
 unfold fF
 grind
theorem tZ:∀{l:List Int} {X:List Hd×Bool} {p:Nat},(ei X p l).1.length=X.1.length
 | [],_,_=>rfl
 | x :: l, X, p => by
   show(ei _ p l).1.length=_;rw[tZ,xr]
theorem Bp {X:List Hd×Bool}{p:Nat}{f:Bool}{r a:Int}:(fP X p f r a).1.length=X.1.length:=by
 unfold fP;split
 . exact xr
 rfl
theorem ZC {a:Sk}{X:List Hd×Bool}{p:Nat}:(jY a X p).1.length=X.1.length:=by
 unfold jY;split
 . exact xr
 rw[tZ,Bp]
theorem qQ {b:Sk}{a:List Hd}{n:Nat}:dQ b a (n+1)=jY b (dQ b a n) n:=by
 unfold dQ;rw[zcW,foldl_append];rfl
theorem y9 {c:Sk}{b:List Hd}:∀{n:Nat},(dQ c b n).1.length=b.length
 | 0=>tZ
 | n+1=>by rw[qQ,ZC,y9]
theorem uN {b:Sk}:∀{j:Nat},(i_ b j).length=b.st.length+1
 | 0=>zcm
 | j+1=>by show(ga _ _).1.length=_;unfold ga;rw[y9,uN]
def mS.Ok (M N:Int):mS->Prop
 | .mv b c=>0≤b∧b<M
 | .op _ r a=>0≤a->(0≤r∧r<N)∧a<M
def Sk.Ok (M N:Int)(a:Sk):Prop:=∀s∈a.st,s.Ok M N
def gY (M N:Int)(l:List Hd):Prop:=∀h∈l,h.Ok M N
theorem gY.get {M N:Int}{l:List Hd}(h:gY M N l)(p:Nat):(l.getD p cb).Ok M N:=by
 rw[zbD];cases e:l[p]? with
 | none=>exact HH
 | some x=>exact h x (zby e)
def sO (M N:Nat)(l:List Hd):Nat:=qN (fun i=>(l.getD i cb).rk M N) l.length
def jq (M N:Nat)(X Y:List Hd×Bool):Prop:=(Y.1=X.1∧Y.2=X.2)∨(sO M N Y.1<sO M N X.1∧Y.2=true)
theorem jq.refl {M N:Nat}(X:List Hd×Bool):jq M N X X := .inl (ag)
theorem jq.trans {M N:Nat}{X Y Z:List Hd×Bool}(f:jq M N X Y)(e:jq M N Y Z):jq M N X Z:=by
 rcases f with⟨a,b⟩|⟨a,b⟩
 . grind
 rcases e with⟨c,d⟩|⟨c,d⟩
 . exact .inr ⟨by grind,d.trans b⟩
 . exact .inr ⟨aa,d⟩
theorem Cf {M N:Nat}{X:List Hd×Bool}{a:Nat}{h:Hd}(b:gY M N X.1)(e:h.Ok M N)(f:a<X.1.length):jq M N X (fF X a h)∧gY M N (fF X a h).1:=by
 unfold fF
 by_cases d:(X.1.getD a cb).dz h=true
 . rw [if_pos d]
   have g:=Hd.u7 (b.get a) e d;refine⟨.inr ⟨?_,rfl⟩,fun x c=>?_⟩
   . unfold sO
     rw[zbP];refine DO (i:=a) (fun i _=>?_) f ?_
     . grind
     grind
   . rcases mem_or_eq_of_mem_set c with c | rfl
     . exact b x c
     . exact(b.get a).mt e
 . rw [if_neg d]
   exact⟨.refl _,b⟩
theorem tY {M N:Nat}:∀{l:List Int} {X:List Hd×Bool} {p:Nat},gY M N X.1->(∀t∈l,t.toNat<X.1.length)->jq M N X (ei X p l)∧gY M N (ei X p l).1
 | [],X,p,b,_=>⟨.refl _,b⟩
 | t :: l, X, p, b, f => by
   have c:=Cf b (b.get p) (f t (ag));have d:=tY (l:=l) (p:=p) c.2 fun t e=>by rw[xr];grind
   exact⟨c.1.trans d.1,d.2⟩
theorem GO {M N:Nat}{X:List Hd×Bool}{p:Nat}{f:Bool}{r a:Int}(b:gY M N X.1)(d:(mS.op f r a).Ok M N)(e:p+1<X.1.length):jq M N X (fP X p f r a)∧gY M N (fP X p f r a).1:=by
 unfold fP;split
 . refine Cf b ?_ e
   split
   . rename_i c;exact(b.get p).set (d c).1 ⟨c,(d c).2⟩
   exact b.get p
 exact⟨.refl _,b⟩
structure Sk.Pl (sk:Sk):Prop where
 iU:∀l∈sk.iU,∀t∈l,t.toNat≤sk.st.length
 fw:∀t∈sk.fw,t.toNat≤sk.st.length
theorem VT {α:Type}{l:List (List α)}{p:Nat}{x:α}(h:x∈l.getD p []):l.getD p []∈l:=by
 grind
theorem ZA {M N:Nat}{c:Sk}(n:c.Ok M N)(k:c.Pl){X:List Hd×Bool}{p:Nat}(d:gY M N X.1)(o:X.1.length=c.st.length+1)(h:p<c.st.length):jq M N X (jY c X p)∧gY M N (jY c X p).1:=by
 have m:c.st.getD p (.mv 0 0)∈c.st:=by grind
 have b:=n _ m;unfold jY;split
 . rename_i q s e
   rw[e] at b;exact Cf d ((d.get p).move b) aa
 . rename_i f r a e
   rw[e] at b;have j:=GO (p:=p) d b aa;have i:=tY (l:=c.iU.getD p []) (p:=p) j.2 fun t g=>by
    rw[Bp];have:=k.iU _ (VT g) t g;omega
   exact⟨j.1.trans i.1,i.2⟩
theorem y8 {M N:Nat}{c:Sk}(j:c.Ok M N)(d:c.Pl){a:List Hd}(f:gY M N a)(g:a.length=c.st.length+1):∀{n:Nat},n≤c.st.length->jq M N (a,false) (dQ c a n)∧gY M N (dQ c a n).1
 | 0,_=>tY f fun t k=>by have:=d.fw t k;grind
 | n + 1, h => by
   have i:=y8 j d f g (n:=n) aa;have e:=ZA j d i.2 (by rw[y9,g]) (by omega:n<c.st.length)
   rw[qQ];exact⟨i.1.trans e.1,e.2⟩
theorem xw {M N:Nat}{b:Sk}(c:b.Ok M N)(d:b.Pl):∀{j:Nat},gY M N (i_ b j)
 | 0=>fun h e=>by rw[eq_of_mem_replicate e];exact HH
 | j+1=>(y8 c d (xw c d) uN (ag)).2
structure px (I:Nat->Int->Int->Prop)(sk:Sk):Prop where
 mv:∀p x2 fr,sk.st[p]? = some (.mv x2 fr)->∀l r,I (p+1) l r->if l=x2 then I p fr r else I p l r
 op:∀p r0 a,sk.st[p]? = some (.op true r0 a)->∀l r,I (p+1) l r->if 0≤a then (if l=a then r=r0 else r≠r0∧I p l r) else I p l r
 iU:∀p,p<sk.st.length->∀f r0 a,sk.st[p]? = some (.op f r0 a)->∀t∈sk.iU.getD p [],∀l r,I t.toNat l r->I p l r
 fw:∀t∈sk.fw,∀l r,I t.toNat l r->I sk.st.length l r
def lU (I:Nat->Int->Int->Prop)(a:List Hd):Prop:=∀p l r,I p l r->((a.getD p cb).of l).has r=true
theorem Cg {I:Nat->Int->Int->Prop}{X:List Hd×Bool}{a:Nat}{h:Hd}(b:lU I X.1)(f:∀l r,I a l r->(h.of l).has r=true):lU I (fF X a h).1:=by
 unfold fF;split
 . intro p l r c
   by_cases e:p=a
   . subst e
     rw[zbD,getElem?_set_self'];have g:=b p l r c;rw[zbD] at *;cases d:X.1[p]? with
     | none=>rfl
     | some y =>
       show((Hd.mt y h).of l).has r=true;rw[Hd.CS,aI.Tc]
       grind
   . rw [zbD, zbV (Ne.symm e)]
     exact b p l r c
 omega
theorem Am {I:Nat->Int->Int->Prop}{p:Nat}:∀{l:List Int} {X:List Hd×Bool},lU I X.1->(∀t∈l,∀x r,I t.toNat x r->I p x r)->lU I (ei X p l).1
 | [],X,b,_=>b
 | t::l,X,b,d=>Am (l:=l) (Cg b fun x r e=>b p x r (d t (ag) x r e)) fun t c=>d t (zbO _ c)
theorem ZB {I:Nat->Int->Int->Prop}{g:Sk}(k:px I g){X:List Hd×Bool}{p:Nat}(c:lU I X.1)(o:p<g.st.length):lU I (jY g X p).1:=by
 have d:g.st[p]? = some (g.st.getD p (.mv 0 0)):=by rw[zbD,zbf o];rfl
 unfold jY;split
 . rename_i t q e
   rw[e] at d;refine Cg c fun l r m=>?_
   have:=k.mv p t q d l r m;rw[Hd.WH];split
   . rename_i h;rw[if_pos h] at this;exact c p _ _ this
   . rename_i h;rw[if_neg h] at this;exact c p _ _ this
 . rename_i f j a e
   rw[e] at d;have s:lU I (fP X p f j a).1:=by
    unfold fP;split
    . rename_i h
      subst h;refine Cg c fun l r m=>?_
      have:=k.op p j a d l r m;split
      . rename_i n
        rw[if_pos n] at this;rw[Hd.WI];split
        . rename_i i
          rw[if_pos i] at this;rw[aI.qc];grind
        . rename_i i
          rw[if_neg i] at this;exact aI.Td.2 ⟨c p l r this.2,this.1⟩
      . rename_i n
        rw[if_neg n] at this;exact c p l r this
    . exact c
   exact Am s (k.iU p o f j a d)
theorem H_ {I:Nat->Int->Int->Prop}{b:Sk}(c:px I b):∀{j:Nat},lU I (i_ b j)
 | 0 => fun p l r _ => by
   have:(uI b).getD p cb=cb:=by
    rw[zbD];cases e:(uI _)[p]? with
    | none=>rfl
    | some y=>exact eq_of_mem_replicate (zby e)
   show(((uI _).getD p _).of l).has r=true;rw[this];rfl
 | j + 1 => by
   have k:∀n,n≤b.st.length->lU I (dQ b (i_ b j) n).1:=by
    intro n
    induction n with
    | zero=>intro _;exact Am (H_ c) c.fw
    | succ n i=>intro h;rw[qQ];exact ZB c (i aa) aa
   exact k _ (ag)
theorem gk.has {I:Nat->Int->Int->Prop}{b:Sk}(c:px I b){a:List Hd}(h:gk b a):lU I a:=by
 obtain⟨⟨j,rfl⟩,_⟩:=h;exact H_ c
inductive TD where
 | struct (fs:List (Nat×Nat×TypeId))
 | slice (e:TypeId)
 | array (n:Nat) (e:TypeId)
 | int (k:IntKind)
 | bool
 | string
 | iface
 | ptr
 | func
 | map (k e:TypeId)
 | other
 deriving Inhabited
structure TI where
 size:Nat
 bytes:Nat
 agg:Bool
 zero:List AV
 desc:TD
 kI:Bool
 deriving Inhabited
structure Env where
 ti:TypeId->Option TI
 bS:eZ
structure bo where
 val:AV
 up:List (Nat×Option an)
def bo.dK (H:aj):List (Nat×Option an)->aj
 | []=>H
 | (k,o)::l=>bo.dK (H.set 24 k o) l
inductive Rd where
 | ret (e:bo)
 | aU (v:AV)
 | rd (k:Nat) (f:an->Rd)
 | ca (b:Bool) (r:Rd)
 | br (b:Bool) (r s:Rd)
 | opt (o:Option (List AV)) (f:List AV->Rd)
 | fail
def Rd.run (H:aj):Rd->Option (bo ⊕ AV)
 | .ret e=>some (.inl e)
 | .aU v=>some (.inr v)
 | .rd k f => match H.get k with
   | some o=>(f o).run H
   | none=>none
 | .ca b r => match b with
   | true=>r.run H
   | false=>none
 | .br b r s => match b with
   | true=>r.run H
   | false=>s.run H
 | .opt o f => match o with
   | some e=>(f e).run H
   | none=>none
 | .fail=>none
def Rd.holds (H:aj)(K:bo->Prop)(Kp:AV->Prop):Rd->Prop
 | .ret e=>K e
 | .aU v=>Kp v
 | .rd k f => match H.get k with
   | some o=>(f o).holds H K Kp
   | none=>False
 | .ca b r=>b=true∧r.holds H K Kp
 | .br b r s=>(b=true->r.holds H K Kp)∧(b=false->s.holds H K Kp)
 | .opt o f=>∃e,o=some e∧(f e).holds H K Kp
 | .fail=>False
theorem Rd.r7 {H:aj}{K:bo->Prop}{Kp:AV->Prop}:∀{r:Rd},r.holds H K Kp->(∃e,r.run H=some (.inl e)∧K e)∨(∃v,r.run H=some (.inr v)∧Kp v)
 | .ret e,h => .inl ⟨e,rfl,h⟩
 | .aU v,h => .inr ⟨v,rfl,h⟩
 | .rd k f, h => by
   simp only[holds] at h;simp only[run];cases e:H.get k with
   | none=>grind
   | some o=>rw[e] at h;exact r7 h
 | .ca b r, h => by
   obtain⟨rfl,h⟩:=h;exact r7 (r:=r) h
 | .br b r s, h => by
   cases b with
   | true=>exact r7 (r:=r) (h.1 rfl)
   | false=>exact r7 (r:=s) (h.2 rfl)
 | .opt o f, h => by
   obtain⟨e,rfl,h⟩:=h;exact r7 (r:=f e) h
 | .fail,h=>h.elim
structure St where
 bu:Tr AV
 bL:Nat
 heap:aj
 next:Nat
def wF:Value->AV
 | .bool b => .bool b
 | .int k n => .int k n
 | .string s => .str s.data.toList
 | .pointer none => .dI
 | .slice none 0 0 => .ai
 | .map none => .fS
 | .nilFunc => .cY
 | .nilIface => .eI
 | _ => .any
def A3:Value->AV
 | .agg a => .agg (a.toList.map wF)
 | v=>wF v
def St.ev (E:Env)(S:St):Operand->AV
 | .tmp t => match S.bu.get t with
   | some x=>x
   | none => .any
 | .const v=>A3 v
 | .global g => match E.bS g with
   | some a => .bm a
   | none => .any
 | .func f => .fn (.func f) [] []
def iI (v:AV)(k:Nat)(o:an):Rd := .ca (ble (k+2) 16777216) (.ret ⟨v,[(k,some o)]⟩)
def cj (E:Env)(t:TypeId)(f:TI->Rd):Rd:=
 match E.ti t with
 | some i=>f i
 | none => .fail
def nq (i:TI)(cs:List AV)(off:Nat):Rd:=
 .ca (ble (off + i.size) cs.length) (match i.agg with
  | true => .ret ⟨.agg ((cs.drop off).take i.size),[]⟩
  | false => match cs[off]? with
    | some x => .ret ⟨x,[]⟩
    | none => .fail)
def kj (f:Nat->List (List AV)->Rd):an->Rd
 | .arr b a=>f b a
 | _ => .fail
def yR (E:Env)(t:TypeId):AV->Rd
 | .ptr k i b=>cj E t fun a => .rd k <| kj fun _ d => .opt d[i]? fun e=>nq a e b
 | .bm c=>cj E t fun a=>nq a c 0
 | _ => .fail
def K4 (E:Env)(t:TypeId)(a v:AV):Rd:=
 match a with
 | .ptr k i b=>cj E t fun d => .ca (v.cells.length == d.size && v.cells.all AV.one) (.rd k <| kj fun g f => .opt f[i]? fun e => .ca (ble (b+d.size) e.length) (.opt (some (lN e b v.cells)) fun c=>iI .any k (.arr g (f.set i c))))
 | _ => .fail
def KQ (E:Env)(nm:Nat)(t:TypeId)(v:AV):Rd:=
 cj E t fun b => .ca (v.cells.length == b.size && v.cells.all AV.one) (.opt (some v.cells) fun a=>iI (.ptr nm 0 0) nm (.arr b.size [a]))
def KO (E:Env)(nm:Nat)(t:TypeId):Rd:=
 cj E t fun a=>iI (.ptr nm 0 0) nm (.arr a.size [a.zero])
def l6 (b:Nat->Option (Nat×Nat))(a:List AV):List (Nat×AV)->Option (List AV)
 | []=>some a
 | (i, v) :: d =>
   match b i with
   | none=>none
   | some (e, c) => match (v.cells.length == c && v.cells.all AV.one) && ble (e + c) a.length with
     | true=>l6 b (lN a e v.cells) d
     | false=>none
def Bq (c:List (Nat×Nat×TypeId))(i:Nat):Option (Nat×Nat):=
 match c[i]? with
 | some (a,b,_)=>some (a,b)
 | none=>none
def KS (E:Env)(t:TypeId)(a:List (Nat×AV)):Rd:=
 cj E t fun b=>match b.desc with
  | .struct f => match l6 (Bq f) b.zero a with
    | some c => .ret ⟨.agg c,[]⟩
    | none => .fail
  | .array _ e => cj E e fun d => match l6 (fun i => some (i * d.size, d.size)) b.zero a with
    | some c => .ret ⟨.agg c,[]⟩
    | none => .fail
  | _ => .fail
def pW (size:Nat)(es:List (List AV)):List (Nat×AV)->Option (List (List AV))
 | []=>some es
 | (i, v) :: a => match (v.cells.length == size && v.cells.all AV.one) && blt i es.length with
   | true=>pW size (es.set i v.cells) a
   | false=>none
def KT (E:Env)(nm:Nat)(t:TypeId)(len:Nat)(a:List (Nat×AV)):Rd:=
 cj E t fun d=>match d.desc with
  | .slice e => cj E e fun b => .ca (ble (len * b.size) 16777216 && blt 0 b.size) (match pW b.size (replicate len b.zero) a with
    | some c=>iI (.ay nm 0 len b.size) nm (.arr b.size c)
    | none => .fail)
  | _ => .fail
def KV (E:Env)(t:TypeId)(x:AV)(f:Nat):Rd:=
 cj E t fun e=>match e.desc,x with
  | .struct c, .agg d => match c[f]? with
    | some (a,_,g)=>cj E g fun b=>nq b d a
    | none => .fail
  | _,_ => .fail
def KW (E:Env)(t:TypeId)(x:AV)(f:Nat):Rd:=
 cj E t fun d=>match d.desc with
  | .struct c => match c[f]? with
    | some (a, e, _) => .ca (blt 0 e) (match x with
      | .ptr k i o => .ret ⟨.ptr k i (o+a),[]⟩
      | .bm b => .ret ⟨.bm (b.drop a),[]⟩
      | _ => .fail)
    | none => .fail
  | _ => .fail
def aZ (n:Int)(len:Nat):Bool:=decide (0≤n) && decide (n<len)
def chunk (cs:List AV)(off n:Nat):Option (List AV):=
 match ble (off+n) cs.length with
 | true=>some ((cs.drop off).take n)
 | false=>none
def yQ (E:Env)(t:TypeId)(x j:AV):Rd:=
 cj E t fun h=>match h.desc,j with
  | .slice e, .int _ n => cj E e fun b => match x with
    | .ay k i a f => .ca (f == b.size && aZ n a) (.ret ⟨.ptr k (i+n.toNat) 0,[]⟩)
    | .ak f g => .ca (f == b.size && aZ n g.length) (.opt g[n.toNat]? fun d => .ret ⟨.bm d,[]⟩)
    | _ => .fail
  | .array a e, .int _ n => cj E e fun b => match x with
    | .ptr k i c => .ca (aZ n a) (.ret ⟨.ptr k i (c+n.toNat * b.size),[]⟩)
    | .bm d => .ca (aZ n a) (.opt (chunk d (n.toNat * b.size) b.size) fun e => .ret ⟨.bm e,[]⟩)
    | _ => .fail
  | _,_ => .fail
def yP (E:Env)(t:TypeId)(x d:AV):Rd:=
 cj E t fun c=>match c.desc,d,x with
  | .array b e,.int _ n,.agg f=>cj E e fun a => .ca (aZ n b) (.opt (chunk f (n.toNat * a.size) a.size) fun e=>nq a e 0)
  | .string,.int _ n,.str l => .ca (aZ n l.length) (.ret ⟨.int .u8 (l.getD n.toNat 0).toNat,[]⟩)
  | _,_,_ => .fail
def dt (d:Int):Option AV->Option Int
 | none=>some d
 | some (.int _ n)=>some n
 | some _=>none
def jB (a b n:Int):Bool:=decide (0≤a) && decide (a≤b) && decide (b≤n)
def nO (E:Env)(t:TypeId)(x:AV)(lo hi mx:Option AV):Rd:=
 cj E t fun h=>match h.desc,x with
  | .string, .str l => match mx, dt 0 lo, dt l.length hi with
    | none,some a,some b => .ca (jB a b l.length) (.ret ⟨.str ((l.drop a.toNat).take (b.toNat - a.toNat)),[]⟩)
    | _,_,_ => .fail
  | .slice e, .ai => cj E e fun _ => match mx, dt 0 lo, dt 0 hi with
    | none,some a,some b => .ca (jB a b 0) (.ret ⟨.ai,[]⟩)
    | _,_,_ => .fail
  | .slice e, .cW => cj E e fun _ => match mx, dt 0 lo, dt 0 hi with
    | none,some a,some b => .ca (jB a b 0) (.ret ⟨.cW,[]⟩)
    | _,_,_ => .fail
  | .slice e, .ay k i c d => cj E e fun g => .ca (d == g.size) (match dt 0 lo, dt c hi with
    | some a, some b => match mx, hi with
      | none,_ => .ca (jB a b c) (.ret ⟨.ay k (i+a.toNat) (b.toNat - a.toNat) d,[]⟩)
      | some (.int _ m),some _ => .ca (jB a b m && decide (m≤c)) (.br (decide (a=m)) (.ret ⟨.cW,[]⟩) (.ret ⟨.ay k (i+a.toNat) (b.toNat - a.toNat) d,[]⟩))
      | _,_ => .fail
    | _,_ => .fail)
  | .slice e, .ak d f => cj E e fun g => .ca (d == g.size) (match dt 0 lo, dt f.length hi with
    | some a, some b => match mx, hi with
      | none,_ => .ca (jB a b f.length) (.ret ⟨.ak d ((f.drop a.toNat).take (b.toNat - a.toNat)),[]⟩)
      | some (.int _ m),some _ => .ca (jB a b m && decide (m≤f.length)) (.br (decide (a=m)) (.ret ⟨.cW,[]⟩) (.ret ⟨.ak d ((f.drop a.toNat).take (b.toNat - a.toNat)),[]⟩))
      | _,_ => .fail
    | _,_ => .fail)
  | _,_ => .fail
def dU (c:BinOp)(k:IntKind)(x y:Int):Int:=
 let a:=BitVec.ofInt k.bits x
 let b:=BitVec.ofInt k.bits y
 match c with
 | .and=>k.wrap (a &&& b).toNat
 | .or=>k.wrap (a ||| b).toNat
 | .xor=>k.wrap (a ^^^ b).toNat
 | _=>k.wrap (a &&& ~~~b).toNat
def bA (a b:Int):Bool:=decide (a<b)
def bw (a b:Int):Bool:=decide (a≤b)
def aV (a b:Int):Bool:=a == b
def bp (a b:List UInt8):Bool:=a == b
def bG (a b:Int)(k:IntKind):Int:=a.fdiv (2 ^ min b.toNat k.bits)
def wr (k:IntKind)(n:Int):Int:=k.wrap n
def fc (E:Env):Nat->TypeId->List AV->List AV->Option Bool
 | 0,_,_,_=>none
 | d + 1, t, g, c =>
   match E.ti t with
   | none=>none
   | some p => match p.kI with
     | false=>none
     | true => match p.desc with
       | .int _ => match g, c with
         | [.int k a], [.int r b] => match decide (k = r) with
           | true=>some (a == b)
           | false=>none
         | _,_=>none
       | .bool => match g, c with
         | [.bool a],[.bool b]=>some (a == b)
         | _,_=>none
       | .string => match g, c with
         | [.str a],[.str b]=>some (a == b)
         | _,_=>none
       | .struct o=>eqF (fc E d) o g c
       | .array n e => match E.ti e with
         | some q=>eqF (fc E d) ((List.range n).map fun i=>(i * q.size,q.size,e)) g c
         | none=>none
       | _=>none
where
 eqF (f:TypeId->List AV->List AV->Option Bool):List (Nat×Nat×TypeId)->List AV->List AV->Option Bool
  | [],_,_=>some true
  | (h, l, t) :: o, g, c =>
    match ble (h+l) g.length && ble (h+l) c.length with
    | false=>none
    | true => match f t ((g.drop h).take l) ((c.drop h).take l), eqF f o g c with
      | some a,some b=>some (a && b)
      | _,_=>none
def eU (b:Bool)(x:Bool):Bool:=match b with
 | true=>!x
 | false=>x
def isNil:AV->Option Bool
 | .ai=>some true
 | .ay _ _ _ _=>some false
 | .ak _ (_::_)=>some false
 | _=>none
def vi (E:Env)(neq:Bool)(t:TypeId)(d:Bool)(x y:AV):Rd:=
 cj E t fun f=>match f.desc with
  | .bool => match x, y with
    | .bool a,.bool b => .ret ⟨.bool (eU neq (a == b)),[]⟩
    | _,_ => .fail
  | .ptr => match x, y with
    | .dI,.dI => .ret ⟨.bool (eU neq true),[]⟩
    | .dI,.ptr _ _ _ | .dI,.bm _ | .ptr _ _ _,.dI | .bm _,.dI => .ret ⟨.bool (eU neq false),[]⟩
    | _,_ => .fail
  | .slice _ => match isNil x, isNil y with
    | some true,some b => .ret ⟨.bool (eU neq b),[]⟩
    | some b,some true => .ret ⟨.bool (eU neq b),[]⟩
    | _,_ => .fail
  | .func => match x, y with
    | .cY,.cY => .ret ⟨.bool (eU neq true),[]⟩
    | .cY,.fn _ _ _ | .fn _ _ _,.cY => .ret ⟨.bool (eU neq false),[]⟩
    | _,_ => .fail
  | .iface => match x, y with
    | .eI, .eI => match d with
      | true => .ret ⟨.bool (eU neq true),[]⟩
      | false => .fail
    | .eI,.cG _ _ | .cG _ _,.eI => .ret ⟨.bool (eU neq false),[]⟩
    | _,_ => .fail
  | .struct _ => match x, y with
    | .agg e, .agg c => match fc E 10 t e c with
      | some b => .ret ⟨.bool (eU neq b),[]⟩
      | none => .fail
    | _,_ => .fail
  | .array _ _ => match x, y with
    | .agg e, .agg c => match fc E 10 t e c with
      | some b => .ret ⟨.bool (eU neq b),[]⟩
      | none => .fail
    | _,_ => .fail
  | _ => .fail
def my (E:Env)(d:BinOp)(t:TypeId)(c:Bool)(x y:AV):Rd:=
 match x,y with
 | .int k a, .int e b =>
   match d with
   | .shl => .ca (decide (0≤b)) (.ret ⟨.int k (wr k (a * 2 ^ min b.toNat k.bits)),[]⟩)
   | .shr => .ca (decide (0≤b)) (.ret ⟨.int k (a.fdiv (2 ^ min b.toNat k.bits)),[]⟩)
   | _ => match decide (k = e) with
     | false => .fail
     | true => match d with
       | .add => .ret ⟨.int k (wr k (a+b)),[]⟩
       | .sub => .ret ⟨.int k (wr k (a - b)),[]⟩
       | .mul => .ret ⟨.int k (wr k (a * b)),[]⟩
       | .quo => .ca (!decide (b=0)) (.ret ⟨.int k (wr k (a.tdiv b)),[]⟩)
       | .rem => .ca (!decide (b=0)) (.ret ⟨.int k (a.tmod b),[]⟩)
       | .eql => .ret ⟨.bool (aV a b),[]⟩
       | .neq => .ret ⟨.bool (!aV a b),[]⟩
       | .lss => .ret ⟨.bool (bA a b),[]⟩
       | .leq => .ret ⟨.bool (bw a b),[]⟩
       | .gtr => .ret ⟨.bool (bA b a),[]⟩
       | .geq => .ret ⟨.bool (bw b a),[]⟩
       | .and => .ret ⟨.int k (dU .and k a b),[]⟩
       | .or => .ret ⟨.int k (dU .or k a b),[]⟩
       | .xor => .ret ⟨.int k (dU .xor k a b),[]⟩
       | .andNot => .ret ⟨.int k (dU .andNot k a b),[]⟩
       | _ => .fail
 | .str a, .str b =>
   match d with
   | .add => .ca (ble (a.length+b.length) 9223372036854775807) (.ret ⟨.str (a++b),[]⟩)
   | .eql => .ret ⟨.bool (bp a b),[]⟩
   | .neq => .ret ⟨.bool (!bp a b),[]⟩
   | .lss => .ret ⟨.bool (Op.bytesLess a b),[]⟩
   | .leq => .ret ⟨.bool (Op.bytesLess a b || a == b),[]⟩
   | .gtr => .ret ⟨.bool (!(Op.bytesLess a b || a == b)),[]⟩
   | .geq => .ret ⟨.bool (!Op.bytesLess a b),[]⟩
   | _ => .fail
 | _, _ => match d with
   | .eql=>vi E false t c x y
   | .neq=>vi E true t c x y
   | _ => .fail
def K5:UnOp->AV->Rd
 | .neg,.int k n => .ret ⟨.int k (wr k (0 - n)),[]⟩
 | .not,.bool b => .ret ⟨.bool (!b),[]⟩
 | .xor,.int k n => .ret ⟨.int k (dU .xor k (if k.signed then -1 else k.max) n),[]⟩
 | _,_ => .fail
def pJ:List (List AV)->Option (List UInt8)
 | []=>some []
 | [.int .u8 n] :: l => match pJ l with
   | some r=>some (UInt8.ofNat n.toNat::r)
   | none=>none
 | _=>none
def kH (es:List (List AV)):Option (List AV):=
 match pJ es with
 | some l=>some [.str l]
 | none=>none
def lG (cs:List AV):Rd:=
 match cs with
 | [v] => .ret ⟨v,[]⟩
 | _ => .fail
def qJ (E:Env)(ts:TI)(x:AV):Rd:=
 match ts.desc with
 | .slice e => cj E e fun f => match f.desc with
   | .int .u8 => match x with
     | .ai => .ret ⟨.str [],[]⟩
     | .ak d b => .ca (d == 1) (.opt (kH b) lG)
     | .ay k i a d => .rd k <| kj fun c b => .ca (d == 1 && c == 1 && ble (i+a) b.length) (.opt (kH ((b.drop i).take a)) lG)
     | _ => .fail
   | _ => .fail
 | _ => .fail
def sT (E:Env)(d c:TypeId)(x:AV):Rd:=
 cj E d fun h=>cj E c fun p=>match p.desc,x with
  | .int k,.int _ n => .ret ⟨.int k (wr k n),[]⟩
  | .string,.str l => .ret ⟨.str l,[]⟩
  | .string,.int _ n => .ret ⟨.str (Utf8.encode n).data.toList,[]⟩
  | .string,.ai=>qJ E h x
  | .string,.ak _ _=>qJ E h x
  | .string,.ay _ _ _ _=>qJ E h x
  | .slice e, .str l => cj E e fun g => match g.desc with
    | .int .u8 => .ret ⟨.ak 1 (l.map fun b=>[.int .u8 b.toNat]),[]⟩
    | _ => .fail
  | .slice e, .ay k i a o => cj E e fun g => match g.desc with
    | .int .u8 => .ca (d == c && blt 0 a && ble (k + 2) 16777216) (.rd k <| kj fun j f => .ca (o == 1 && j == 1 && ble (i+a) f.length)
     (.opt (kH ((f.drop i).take a)) fun _ => .ret ⟨.ak 1 ((f.drop i).take a),[(k,none)]⟩))
    | _ => .fail
  | _,_ => .fail
def KX (E:Env)(t:TypeId)(x:AV):Rd:=
 cj E t fun a=>match a.desc with
  | .iface => .fail
  | _ => .ret ⟨.cG t x,[]⟩
def KP (E:Env)(x:AV)(t:TypeId)(b:Bool):Rd:=
 cj E t fun a=>match a.desc,x with
  | .iface,_ => .fail
  | _, .cG c v => match c == t, b with
    | true,true => .ret ⟨.ao [v,.bool true],[]⟩
    | true,false => .ret ⟨v,[]⟩
    | false,true => .ret ⟨.ao [match a.agg with|true => .agg a.zero|false=>a.zero.headD .any,.bool false],[]⟩
    | false,false => .fail
  | _, .eI => match b with
    | true => .ret ⟨.ao [match a.agg with|true => .agg a.zero|false=>a.zero.headD .any,.bool false],[]⟩
    | false => .fail
  | _,_ => .fail
def yO (x:AV)(i:Nat):Rd:=
 match x with
 | .ao a => match a[i]? with
   | some v => .ret ⟨v,[]⟩
   | none => .fail
 | _ => .fail
def yS (E:Env)(nm:Nat)(t:TypeId)(len cap:AV):Rd:=
 cj E t fun b=>match b.desc,len,cap with
  | .slice e, .int .i64 l, .int .i64 c => cj E e fun a =>
    .ca (decide (0≤l) && decide (l≤c) && decide (c≤9223372036854775807) && decide (a.bytes * c≤140737488355328) && blt 0 a.size)
     (iI (.ay nm 0 l.toNat a.size) nm (.arr a.size (replicate c.toNat a.zero)))
  | _,_,_ => .fail
def Yw:AV->Rd
 | .ptr k i a => .ret ⟨.ptr k i a,[]⟩
 | .bm c => .ret ⟨.bm c,[]⟩
 | .fn (.func f) d b => .ret ⟨.fn (.func f) d b,[]⟩
 | .cG t v => .ret ⟨.cG t v,[]⟩
 | _ => .fail
def K2 (c a b:AV):Rd:=
 match c with
 | .bool t => .br t (.ret ⟨a,[]⟩) (.ret ⟨b,[]⟩)
 | _ => .fail
def qk:AV->Option Nat
 | .ai | .cW=>some 0
 | .ay _ _ a _=>some a
 | .ak _ b=>some b.length
 | _=>none
def KY (E:Env)(t:TypeId)(x:AV):Rd:=
 cj E t fun a=>match a.desc,x with
  | .string,.str l => .ret ⟨.int .i64 l.length,[]⟩
  | .array n _,_ => .ret ⟨.int .i64 n,[]⟩
  | .slice _, x => match qk x with
    | some n => .ret ⟨.int .i64 n,[]⟩
    | none => .fail
  | _,_ => .fail
def rI (size:Nat)(x:AV)(f:List (List AV)->Rd):Rd:=
 match x with
 | .ai | .cW=>f []
 | .ak e c => .ca (e == size) (f c)
 | .ay k i a e => .rd k <| kj fun d c => .ca (e == size && d == size && ble (i+a) c.length) (f ((c.drop i).take a))
 | .str l => .ca (size == 1) (f (l.map fun b=>[.int .u8 b.toNat]))
 | _ => .fail
def yL (E:Env)(nm:Nat)(e:TypeId)(s x:AV):Rd:=
 cj E e fun b => .ca (blt 0 b.size) (rI b.size x fun a=>
  .br (beq a.length 0) (match qk s with|some _ => .ret ⟨s,[]⟩|none => .fail)
   (.ca (a.all fun e => e.all AV.one) (match s with
     | .ai | .cW => .ca (ble (a.length * (b.bytes+1)) 140737488355328) (iI (.ay nm 0 a.length b.size) nm (.arr b.size a))
     | .ay k i c g => .rd k <| kj fun d f => .ca (g == b.size && d == b.size && ble (i+c) f.length && ble ((c+a.length) * (b.bytes+1)) 140737488355328 && ble (k+2) 16777216 && ble (nm+2) 16777216) (.ret ⟨.ay nm 0 (c+a.length) b.size,[(k,none),(nm,some (.arr b.size ((f.drop i).take c++a)))]⟩)
     | _ => .fail)))
def yK (E:Env)(nm:Nat)(e:TypeId)(s x:AV):Rd:=
 cj E e fun a=>match s,x with
  | .ai, .int .i64 n => .ca (blt 0 a.size && a.zero.all AV.one) (.ca (blt 0 n.toNat && ble (n.toNat * (a.bytes+1)) 140737488355328)
   (iI (.ay nm 0 n.toNat a.size) nm (.arr a.size (replicate n.toNat a.zero))))
  | _,_ => .fail
def qI (E:Env)(nm:Nat)(t b:TypeId)(s x:AV):Rd:=
 cj E t fun c=>cj E b fun a=>match c.desc,a.desc with
  | .slice e,.slice _ | .slice e,.string=>yL E nm e s x
  | .slice e,.int _=>yK E nm e s x
  | _,_ => .fail
def KU (E:Env)(t:TypeId)(x:AV):Rd:=
 cj E t fun a=>match a.desc,x with
  | .slice _,.ai => .ret ⟨.int .i64 0,[]⟩
  | _,_ => .fail
def yN (E:Env)(t:TypeId)(x:AV):Rd:=
 cj E t fun f=>match f.desc,x with
  | .slice e,.ay k i a g=>cj E e fun b => .rd k <| kj fun d c => .ca (blt 0 b.size && b.zero.all AV.one && g == b.size && d == b.size)
   (.ca (ble (i+a) c.length) (iI (.ao []) k (.arr b.size (c.take i++replicate a b.zero++c.drop (i+a)))))
  | _,_ => .fail
def bF (mx:Bool)(a b:Int):Int:=match mx with|true=>if b > a then b else a|false=>if b<a then b else a
def qm (mx:Bool):AV->List AV->Option AV
 | x,[]=>some x
 | .int k a,.int _ b::l=>qm mx (.int k (bF mx a b)) l
 | _,_=>none
def yT (mx:Bool):List AV->Rd
 | .int k a :: l => match qm mx (.int k a) l with
   | some v => .ret ⟨v,[]⟩
   | none => .fail
 | _ => .fail
def A8 (s:List UInt8)(a:Nat):Nat×Nat:=Utf8.decode ⟨s.toArray⟩ a
def jK (s:List UInt8)(a:Nat):Int:=(A8 s a).1
def hP (s:List UInt8)(a:Nat):Nat:=(A8 s a).2
def gq:List (Int×AV)->Int->Option AV
 | [],_=>none
 | (a, x) :: l, k => match decide (a = k) with
   | true=>some x
   | false=>gq l k
def eu:List (Int×AV)->Int->AV->List (Int×AV)
 | [],k,v=>[(k,v)]
 | (a, x) :: l, k, v => match decide (a < k) with
   | true=>(a,x)::eu l k v
   | false => match decide (a = k) with
     | true=>(k,v)::l
     | false=>(k,v)::(a,x)::l
def vB (a:TI):AV:=match a.agg with|true => .agg a.zero|false=>a.zero.headD .any
def nu (z:AV)(a:Bool):Option AV->AV
 | some v=>match a with|true => .ao [v,.bool true]|false=>v
 | none=>match a with|true => .ao [z,.bool false]|false=>z
def Jm (f:List (Int×AV)->Rd):an->Rd
 | .mp a=>f a
 | _ => .fail
def Eo (E:Env)(t:TypeId)(a:AV)(f:TI->Int->Rd):Rd:=
 cj E t fun c=>match c.desc,a with
  | .map d e, .int .i64 k => cj E d fun g => match g.desc with
    | .int .i64=>cj E e fun b=>f b k
    | _ => .fail
  | _,_ => .fail
def KZ (E:Env)(t:TypeId)(x b:AV)(c:Bool):Rd:=
 Eo E t b fun a k=>match x with
  | .fS => .ret ⟨nu (vB a) c none,[]⟩
  | .cK d => .ret ⟨nu (vB a) c (gq d k),[]⟩
  | .cX e => .rd e <| Jm fun d => .ret ⟨nu (vB a) c (gq d k),[]⟩
  | _ => .fail
def K1 (E:Env)(t:TypeId)(m a v:AV):Rd:=
 Eo E t a fun _ k=>match m with
  | .cX b => .rd b <| Jm fun c=>iI .any b (.mp (eu c k v))
  | _ => .fail
def K3 (E:Env)(nm:Nat)(t:TypeId)(x:AV):Rd:=
 cj E t fun b=>match b.desc,x with
  | .string,.str s=>iI (.ptr nm 0 0) nm (.dJ s 0)
  | .map _ _,.cK a=>iI (.ptr nm 0 0) nm (.cm none a)
  | _,_ => .fail
def WM (f:Int×AV->Rd):an->Rd
 | .cm (some p) _=>f p
 | _ => .fail
def Dx (x:AV):Rd:=
 match x with
 | .ptr k 0 0 => .rd k <| WM fun p => .ret ⟨.ao [.int .i64 p.1,p.2],[]⟩
 | _ => .fail
def Jn (f:List UInt8->Nat->Rd):an->Rd
 | .dJ s a=>f s a
 | _ => .fail
def vj (x:AV)(b:Bool):Rd:=
 match x,b with
 | .ptr k 0 0,true => .rd k <| Jn fun s a => .br (blt a s.length) (iI (.ao [.bool true,.int .i64 a,.int .i32 (jK s a)]) k (.dJ s (a+hP s a))) (.ret ⟨.ao [.bool false],[]⟩)
 | _,_ => .fail
def iD:Operand->Bool
 | .const _=>true
 | _=>false
def yM (E:Env)(nm:Nat)(b:Builtin)(ts:Array TypeId)(args:List AV):Rd:=
 match b,ts.toList,args with
 | .len,[t],[x]=>KY E t x
 | .append,[t,a],[s,x]=>qI E nm t a s x
 | .cap,[t],[x]=>KU E t x
 | .clear,[t],[x]=>yN E t x
 | .min,_,l=>yT false l
 | .max,_,l=>yT true l
 | _,_,_ => .fail
def cf (E:Env)(nm:Nat)(ρ:Operand->AV):Op->Rd
 | .move x | .assign x => .ret ⟨ρ x,[]⟩
 | .pick c a b=>K2 (ρ c) (ρ a) (ρ b)
 | .alloc t=>KO E nm t
 | .box t x=>KQ E nm t (ρ x)
 | .build t o=>KS E t (o.toList.map fun (i,x)=>(i,ρ x))
 | .buildSlice t n o=>KT E nm t n (o.toList.map fun (i,x)=>(i,ρ x))
 | .load t a=>yR E t (ρ a)
 | .store t a x=>K4 E t (ρ a) (ρ x)
 | .nilCheck x=>Yw (ρ x)
 | .binOp h t x y _=>my E h t (iD x || iD y) (ρ x) (ρ y)
 | .unOp h _ x=>K5 h (ρ x)
 | .convert s d x=>sT E s d (ρ x)
 | .makeInterface t x=>KX E t (ρ x)
 | .makeFunc f u w => .ret ⟨.fn f (u.toList.map ρ) (w.toList.map ρ),[]⟩
 | .makeSlice t l c=>yS E nm t (ρ l) (ρ c)
 | .slice t x z q r=>nO E t (ρ x) (z.map ρ) (q.map ρ) (r.map ρ)
 | .fieldAddr t x f=>KW E t (ρ x) f
 | .field t x f=>KV E t (ρ x) f
 | .indexAddr t x i=>yQ E t (ρ x) (ρ i)
 | .index t x i=>yP E t (ρ x) (ρ i)
 | .typeAssert x _ t g=>KP E (ρ x) t g
 | .extract x i=>yO (ρ x) i
 | .range t x=>K3 E nm t (ρ x)
 | .makeMap _ none=>iI (.cX nm) nm (.mp [])
 | .lookup t x i g=>KZ E t (ρ x) (ρ i) g
 | .mapUpdate t m k v=>K1 E t (ρ m) (ρ k) (ρ v)
 | .next x j=>vj (ρ x) j
 | .entry x=>Dx (ρ x)
 | .panic x => match ρ x with
   | .cG t v => .aU (.cG t v)
   | _ => .fail
 | .call { callee := .builtin b,args,argTypes }=>yM E nm b argTypes (args.toList.map ρ)
 | _ => .fail
theorem vY {X:List Hd×Bool}{p m:Nat}{l:List Int}(h:m<l.length):ei X p (l.take (m+1))=fF (ei X p (l.take m)) (l[m]).toNat ((ei X p (l.take m)).1.getD p cb):=by
 rw[<-take_append_getElem h];unfold ei
 grind
theorem E2 {X:List Hd×Bool}{p:Nat}{l:List Int}:ei X p (l.take 0)=X:=rfl
theorem Oz {o:List Hd}{b:Bool}{p:Nat}{l:List Int}:(ei (o,b) p (l.take 0)).1=o:=rfl
theorem OA {o:List Hd}{b:Bool}{p:Nat}{l:List Int}:(ei (o,b) p (l.take 0)).2=b:=rfl
theorem Ao {X:List Hd×Bool}{p m:Nat}{l:List Int}(h:l.length≤m):ei X p (l.take m)=ei X p l:=by rw[zbj h]
theorem T7 {a:Sk}{j:Nat}:i_ a (j+1)=(ga a (i_ a j)).1:=rfl
theorem X3 {b:Sk}{a:List Hd}{n:Nat}(h:n=b.st.length):ga b a=dQ b a n:=by subst h;rfl
theorem X4 {b:Sk}{M N:Nat}(e:b.Ok M N)(d:b.Pl){a:List Hd}(f:gY M N a)(c:a.length=b.st.length+1):jq M N (a,false) (ga b a):=(y8 e d f c (ag)).1
theorem ZF {b:Sk}{a:List Hd}:dQ b a 0=ei (a,false) b.st.length b.fw:=rfl
theorem X5 {b:Sk}{M N:Nat}{a:List Hd}(h:jq M N (a,false) (ga b a)):(if (ga b a).2=true then sO M N (ga b a).1+1 else 0)<sO M N a+1:=by
 rcases h with⟨d,c⟩|⟨d,c⟩<;>grind
theorem X6 {b:Sk}{M N:Nat}{a:List Hd}(h:jq M N (a,false) (ga b a))(e:(ga b a).2=false):ga b (ga b a).1=((ga b a).1,false):=by
 rcases h with⟨d,c⟩|⟨d,c⟩<;>grind
theorem ZD {b:Sk}{X:List Hd×Bool}{n:Nat}{a fr:Int}(h:b.st[n]? = some (.mv a fr)):jY b X n=fF X (n+1) ((X.1.getD n cb).move a fr):=by
 unfold jY
 grind
theorem ZE {b:Sk}{X:List Hd×Bool}{n:Nat}{f:Bool}{r a:Int}(h:b.st[n]? = some (.op f r a)):jY b X n=ei (fP X n f r a) n (b.iU.getD n []):=by
 unfold jY
 grind
theorem GR {X:List Hd×Bool}{n:Nat}{r a:Int}(h:0≤a):fP X n true r a=fF X (n+1) ((X.1.getD n cb).set r a):=by unfold fP;grind
theorem GQ {X:List Hd×Bool}{n:Nat}{r a:Int}(h:a<0):fP X n true r a=fF X (n+1) (X.1.getD n cb):=by unfold fP;grind
theorem GP {X:List Hd×Bool}{n:Nat}{r a:Int}:fP X n false r a=X:=rfl
theorem uM {X:List Hd×Bool}{n:Nat}{u:Hd}(h:(X.1.getD n cb).dz u=true):(fF X n u).2=true:=by unfold fF;grind
theorem uK {X:List Hd×Bool}{n:Nat}{u:Hd}(h:(X.1.getD n cb).dz u=false):(fF X n u).2=X.2:=by unfold fF;grind
end Go.Ago
section
namespace Go.Ago
open List Nat
def rm (P:Program)(d:TypeDesc):TD->Prop
 | .struct o=>∃g,d = .struct g∧g.size=o.length∧∀(i j m:Nat) (t:TypeId),o[i]? = some (j,m,t)->
  ∃f h,g[i]? = some f∧f.offset=j∧f.type=t∧P.info? t=some h∧h.size=m∧f.name ≠ "_"
 | .slice e=>d = .slice e
 | .array n e=>d = .array n e
 | .int k=>d = .int k
 | .bool=>d = .bool
 | .string=>d = .string
 | .iface=>∃l,d = .interface l
 | .ptr=>∃e,d = .pointer e
 | .func=>∃a b c,d = .func a b c
 | .map k e=>d = .map k e
 | .other=>∀l,d≠.interface l
def xu:TypeDesc->Bool
 | .struct _ | .array _ _=>true
 | _=>false
structure pE (P:Program)(t:TypeId)(ti:TI):Prop where
 ok:∃info d z,P.info? t=some info∧P.underlying t=some d∧info.size=ti.size∧info.bytes=ti.bytes∧ti.agg=xu d∧rm P d ti.desc∧info.zero=some z ∧
  (∀c w,aP c w ti.zero z.cells.toList)∧ti.zero.length=ti.size∧(∀x∈ti.zero,x.one=true)∧(∀c w,Rel c w (match ti.agg with|true => .agg ti.zero|false=>ti.zero.headD .any) z)
 kI:ti.kI=true->P.eqGuardType P.depth t=false∧(∀fs,ti.desc = .struct fs->P.stoodInHeld t=false)
structure bZ (P:Program)(E:Env):Prop where
 ti:∀t i,E.ti t=some i->pE P t i
section
variable {H:aj} {x:bo ⊕ AV}
theorem cL {E:Env}{t:TypeId}{f:TI->Rd}(h:(cj E t f).run H=some x):∃i,E.ti t=some i∧(f i).run H=some x:=by
 unfold cj at h;cases e:E.ti t with
 | none=>rw[e] at h;simp[Rd.run] at h
 | some i=>grind
theorem cz {b:Bool}{r:Rd}(h:(Rd.ca b r).run H=some x):b=true∧r.run H=some x:=by
 cases b with
 | true=>exact⟨rfl,h⟩
 | false=>simp[Rd.run] at h
theorem lL {k:Nat}{f:an->Rd}(h:(Rd.rd k f).run H=some x):∃o,H.get k=some o∧(f o).run H=some x:=by
 simp[Rd.run] at h
 grind
theorem nL {o:Option (List AV)}{f:List AV->Rd}(h:(Rd.opt o f).run H=some x):∃e,o=some e∧(f e).run H=some x:=by
 cases o with
 | none=>simp[Rd.run] at h
 | some e=>exact⟨e,rfl,h⟩
theorem sR {b:Bool}{r s:Rd}(h:(Rd.br b r s).run H=some x):(b=true∧r.run H=some x)∨(b=false∧s.run H=some x):=by
 cases b with
 | true=>exact .inl ⟨rfl,h⟩
 | false=>exact .inr ⟨rfl,h⟩
theorem aF (h:Rd.fail.run H=some x):False:=by simp[Rd.run] at h
theorem bE {e:bo}(h:(Rd.ret e).run H=some x):x = .inl e:=by simp[Rd.run] at h;grind
theorem jA {v:AV}{k:Nat}{o:an}(h:(iI v k o).run H=some x):k+1<2 ^ 24∧x = .inl ⟨v,[(k,some o)]⟩:=by
 obtain⟨b,a⟩:=cz h;exact⟨by have:=zbb b;omega,bE a⟩
end
def aX (G:eZ)(c:Ctx)(w:World)(H:aj)(nm:Nat):bo ⊕ AV->Result Value->Prop
 | .inl b,a=>∃v e d,a = .ok v e∧Ext c w H d e (bo.dK H b.up)∧aN G d e (bo.dK H b.up)∧Rel d e b.val v∧∀k,k≠nm->d.f k=c.f k
 | .inr x,a=>∃v,a = .halt (.panic v) w∧Rel c w x v
section
variable {P:Program} {E:Env} {G:eZ} {c:Ctx} {w:World} {H:aj} {nm:Nat}
theorem aX.quiet (b:aN G c w H){x:AV}{v:Value}(a:Rel c w x v):aX G c w H nm (.inl ⟨x,[]⟩) (.ok v w):=
 ⟨v,w,c,rfl,Ext.refl c w H,b,a,fun _ _=>rfl⟩
theorem kr {t:TypeId}{b:TI}(h:pE P t b)(w:World):(sizeOf t).run P w = .ok b.size w:=by
 obtain⟨a,d,z,f,_,e,_⟩:=h.ok;simp[sizeOf,typeInfo,f,e]
theorem vg {t:TypeId}{b:TI}(h:pE P t b)(w:World):(isAgg t).run P w = .ok b.agg w:=by
 obtain⟨a,d,z,_,f,_,_,e,_⟩:=h.ok;rw[e];unfold isAgg xu;simp[run_underlying f];cases d<;>rfl
theorem Du {t:TypeId}{a:TI}(h:pE P t a)(w:World):∃z,(zeroValue t).run P w = .ok z w∧(∀c w,aP c w a.zero z.cells.toList)∧a.zero.length=a.size∧(∀x∈a.zero,x.one=true) ∧
 ∀c w,Rel c w (match a.agg with|true => .agg a.zero|false=>a.zero.headD .any) z:=by
 obtain⟨f,d,z,g,_,_,_,_,_,k,i,j,e,b⟩:=h.ok;exact⟨z,by simp[zeroValue,typeInfo,g,k],i,j,e,b⟩
theorem jW {t:TypeId}{b:TI}(h:pE P t b):∃d,(∀w,(underlying t).run P w = .ok d w)∧P.underlying t=some d∧rm P d b.desc:=by
 obtain⟨a,d,z,_,e,_,_,_,f,_⟩:=h.ok;exact⟨d,fun w=>run_underlying e w,e,f⟩
theorem Iq (k:aN G c w H){b:TI}{t:TypeId}(i:pE P t b){cs:List AV}{off:Nat}{x:bo ⊕ AV}(h:(nq b cs off).run H=some x){arr:Array Value}(g:aP c w cs arr.toList) :
 aX G c w H nm x ((part t arr off).run P w):=by
 obtain⟨m,a⟩:=cz h;unfold part;simp only[Sem.run_bind,vg i];cases j:b.agg with
 | true =>
   rw[j] at a;obtain rfl:=bE a;simp only[if_true,Sem.run_bind,kr i,Result.andThen_ok];have:arr.extract off (off+b.size)=((arr.toList.drop off).take b.size).toArray:=by
    apply zcd
    simp
   rw[this];exact aX.quiet k (.agg ((g.drop off).take _).1 ((g.drop off).take _).2)
 | false =>
   rw[j] at a;cases f:cs[off]? with
   | none=>rw[f] at a;exact(aF a).elim
   | some y =>
     rw[f] at a;obtain rfl:=bE a;obtain⟨v,l,e⟩:=g.get f;have:=by simpa using l
     rw[this];exact aX.quiet k e
theorem FU {cs e:List AV}{off n:Nat}(h:chunk cs off n=some e):off+n≤cs.length∧e=(cs.drop off).take n:=by
 unfold chunk at h;cases a:ble (off+n) cs.length with
 | true=>simp_all
 | false=>grind
theorem U_ {a:TI}{cs e:List AV}{off:Nat}(i:chunk cs off a.size=some e){x:bo ⊕ AV}(h:(nq a e 0).run H=some x):(nq a cs off).run H=some x:=by
 obtain⟨f,rfl⟩:=FU i;obtain⟨k,b⟩:=cz h;have g:ble (off+a.size) cs.length=true:=zbs f;unfold nq;rw[g];show (match a.agg with
  | true=>Rd.ret ⟨.agg ((cs.drop off).take a.size),[]⟩
  | false => match cs[off]? with
    | some x => .ret ⟨x,[]⟩
    | none => .fail).run H=some x
 cases j:a.agg with
 | true =>
   grind
 | false =>
   rw[j] at b;dsimp only at b ⊢;rw[zcR] at b
   by_cases d:0<a.size
   . grind
   . simp only [d, zb8] at b
     exact(aF b).elim
theorem IA (L:bZ P E)(D:aN G c w H){t:TypeId}{a:AV}{v:Value}(V:Rel c w a v){x:bo ⊕ AV}(h:(yR E t a).run H=some x) :
 ∃y u,x = .inl ⟨y,[]⟩∧(Instr.loadAt t v).run P w = .ok u w∧Rel c w y u:=by
 cases V with
 | @ptr _ _ k i q B C =>
   obtain⟨l,m,h⟩:=cL h;have r:=L.ti t l m;obtain⟨o,F,h⟩:=lL h;cases o with
   | dJ _ _=>exact(aF h).elim
   | lp _ _ _ _ _=>exact(aF h).elim
   | mp _=>exact(aF h).elim
   | cm _ _=>exact(aF h).elim
   | arr sz Y =>
     obtain⟨e,K,h⟩:=nL h;obtain⟨z,f⟩:=cz h;have p:=zbb z;have W:=(D.sz F C).1;simp only[Instr.loadAt,Instr.sureAddr,Sem.run_bind,Sem.run_pure,Result.andThen_ok,loadVar,vg r,W];cases g:l.agg with
     | true =>
       rw[g] at f;obtain rfl:=bE f;obtain⟨R,j,b⟩:=D.loadCells P F C K q l.size p;simp only[if_true,Sem.run_bind,kr r,Result.andThen_ok,j,Sem.run_pure];exact⟨_,_,rfl,rfl,.agg b.1 b.2⟩
     | false =>
       rw[g] at f;dsimp only at f;cases n:e[q]? with
       | none=>rw[n] at f;exact(aF f).elim
       | some y =>
         rw[n] at f;obtain rfl:=bE f;obtain⟨v,M,_,A⟩:=D.cell F C K n
         simp_all
 | @bm _ _ U a R Z N O A =>
   obtain⟨l,m,h⟩:=cL h;have r:=L.ti t l m;obtain⟨z,f⟩:=cz h;have p:=zbb z;simp only[Instr.loadAt,Instr.sureAddr,Sem.run_bind,Sem.run_pure,Result.andThen_ok,loadVar,vg r];cases g:l.agg with
   | true =>
     rw[g] at f;obtain rfl:=bE f;obtain⟨j,b⟩:=Vv (c:=c.bare) P N O A l.size aa;have b:=b.oJ;simp only[if_true,Sem.run_bind,kr r,Result.andThen_ok,j,Sem.run_pure];exact⟨_,_,rfl,rfl,.agg b.1 b.2⟩
   | false =>
     rw[g] at f;dsimp only at f;cases n:U[0]? with
     | none=>rw[n] at f;exact(aF f).elim
     | some y =>
       rw[n] at f;obtain rfl:=bE f;obtain⟨v,M,s⟩:=aP.get (c:=c.bare) (w:=w) ⟨N,A⟩ n;have s:=s.oJ;have:=O 0 v M;rw[show a.add 0=a by rfl] at this
       simp_all
 | _=>exact(aF h).elim
theorem Vw (g:bZ P E)(d:aN G c w H){t:TypeId}{a:AV}{v:Value}(f:Rel c w a v){x:bo ⊕ AV}(h:(yR E t a).run H=some x) :
 aX G c w H nm x ((Instr.loadAt t v).run P w):=by
 obtain⟨y,u,rfl,i,e⟩:=IA g d f h;rw[i];exact aX.quiet d e
theorem qV (H:aj)(k:Nat)(o:Option an):bo.dK H [(k,o)]=H.set 24 k o:=rfl
theorem N_ {xs:List AV}(h:xs.all AV.one=true):∀x∈xs,x.one=true:=by grind
theorem AO {v:AV}(h:v.cells.all AV.one=true):v.one=true∨∃cs,v = .agg cs:=by
 cases v with
 | agg cs=>simp
 | _=>left;simpa[AV.cells] using h
theorem Zt {es:List (List AV)}{sz i off:Nat}{e xs:List AV}(l:es[i]? = some e)(o:∀(i:Nat) e,es[i]? = some e->e.length=sz)(p:off+xs.length≤e.length) :
 (∀(a:Nat) d,(es.set i (lN e off xs))[a]? = some d->d.length=sz) ∧
 ∀(a j:Nat) d x,(es.set i (lN e off xs))[a]? = some d->d[j]? = some x->(a * sz+j<i * sz+off∧∃g,es[a]? = some g∧g[j]? = some x) ∨
  (i * sz+off≤a * sz+j∧a * sz+j<i * sz+off+xs.length∧xs[a * sz+j - (i * sz+off)]? = some x)∨(i * sz+off+xs.length≤a * sz+j∧∃g,es[a]? = some g∧g[j]? = some x):=by
 have q:=o i e l;have n:i<es.length:=(zbn.1 l).1
 constructor
 . intro a d h
   rw[zc8] at h
   by_cases b:i=a
   . subst b
     simp[n] at h;subst h;rw[Lu _ _ _ p];omega
   grind
 . intro a j d x h m
   rw[zc8] at h
   by_cases b:i=a
   . subst b
     simp[n] at h;subst h;rw[DS _ _ _ _ p] at m
     grind
   . simp [b] at h
     have r:j<sz:=by have:=(zbn.1 m).1;rw[o a d h] at this;exact this
     rcases Nat.lt_or_gt_of_ne b with f|f
     . right; right
       have:(i+1) * sz≤a * sz:=zbx _ f
       grind
     . left
       have:(a+1) * sz≤i * sz:=zbx _ f
       grind
theorem ZN (hE:bZ P E)(N:aN G c w H){t:TypeId}{a y:AV}{v u:Value}(W:Rel c w a v)(hy:Rel c w y u){x:bo ⊕ AV}(h:(K4 E t a y).run H=some x) :
 ∃d w' c',x = .inl d∧(Instr.storeAt t v u).run P w = .ok () w'∧Ext c w H c' w' (bo.dK H d.up)∧aN G c' w' (bo.dK H d.up)∧d.val = .any∧∀k,c'.f k=c.f k:=by
 cases W with
 | @ptr _ _ k i j B L =>
   obtain⟨M,I,h⟩:=cL h;have S:=hE.ti t M I;obtain⟨K,h⟩:=cz h;obtain⟨o,O,h⟩:=lL h;cases o with
   | dJ _ _=>exact(aF h).elim
   | lp _ _ _ _ _=>exact(aF h).elim
   | mp _=>exact(aF h).elim
   | cm _ _=>exact(aF h).elim
   | arr s J =>
     obtain⟨e,C,h⟩:=nL h;obtain⟨h1,D⟩:=cz h;obtain⟨_,z,D⟩:=nL D;cases z;obtain⟨m,rfl⟩:=jA D;have V:=zbb h1;simp only[zbe,zb1] at K;obtain⟨l,g⟩:=K;obtain⟨Y,hn,p⟩:=N.sz O L;have Q:=hy.cells (AO g);have F:u.cells.size=M.size:=by rw[<-l];simpa using Q.1.symm
     have X:i<J.length:=(zbn.1 C).1;have r:=Zt (xs:=y.cells) (off:=j) C p aa;have hB:i * s+j+y.cells.length≤B.n:=by
      have:=p i e C;have h3:(i+1) * s≤J.length * s:=zbx _ X;rw[zcs] at h3;omega
     obtain⟨w',R,q,A⟩:=N.store O L m (i * s+j) Q (N_ g) hB bj r.1 r.2 P;refine⟨_,w',c,rfl,?_,q,A,rfl,fun _=>rfl⟩
     simp only[Instr.storeAt,Instr.sureAddr,Sem.run_bind,Sem.run_pure,Result.andThen_ok,storeVar,kr S,F,ne_eq,not_true,zb8,Y];omega
 | _=>exact(aF h).elim
theorem Ctx.mV {k:Nat}{B:fo}:∀j,j≠k->(c.bind k B).f j=c.f j:=fun j a=>by simp[Ctx.bind,a]
theorem Pc (D:bZ P E)(I:aN G c w H)(m:c.f nm=none){t:TypeId}{y:AV}{u:Value}(K:Rel c w y u){x:bo ⊕ AV}(h:(KQ E nm t y).run H=some x) :
 aX G c w H nm x ((Instr.box t u).run P w):=by
 obtain⟨a,p,h⟩:=cL h;have L:=D.ti t a p;obtain⟨A,h⟩:=cz h;obtain⟨_,o,h⟩:=nL h;cases o;obtain⟨d,rfl⟩:=jA h;simp only[zbe,zb1] at A;obtain⟨g,l⟩:=A;have r:=K.cells (AO l);have := I.alloc m d t (arr := u.cells) (sz := a.size) (es := [y.cells]) (n := a.size) (by have := r.1; grind) ag (fun i e s=>by
  cases i with
  | zero =>
    simp at s;subst s;refine⟨g,fun j x J=>?_⟩
    obtain⟨v,M,F⟩:=r.get J
    grind
  | succ i=>grind)
 refine⟨.pointer (some ⟨w.heap.size,0,none⟩),_,_,?_,this.1,this.2,?_,Ctx.mV⟩
 . rfl
 . have F := Rel.ptr (c := c.bind nm ⟨w.heap.size, 0, a.size, a.size⟩) (w := w.alloc (.cells u.cells t)) (k := nm) (i := 0) (off := 0) (B := ⟨w.heap.size, 0, a.size, a.size⟩) (by simp [Ctx.bind])
   grind
theorem Od (C:bZ P E)(I:aN G c w H)(m:c.f nm=none){t:TypeId}{x:bo ⊕ AV}(h:(KO E nm t).run H=some x) :
 aX G c w H nm x ((Instr.alloc t true (.tuple #[])).run P w):=by
 obtain⟨a,p,h⟩:=cL h;have A:=C.ti t a p;obtain⟨g,rfl⟩:=jA h;obtain⟨z,y,l,o,_,_⟩:=Du A w;have r:=l c w;have := I.alloc m g t (arr := z.cells) (sz := a.size) (es := [a.zero]) (n := a.size) (by have := r.1; grind) ag (fun i e q=>by
  cases i with
  | zero =>
    simp at q;subst q;refine⟨o,fun j x D=>?_⟩
    obtain⟨v,J,F⟩:=r.get D
    grind
  | succ i=>grind)
 refine⟨.pointer (some ⟨w.heap.size,0,none⟩),_,_,?_,this.1,this.2,?_,Ctx.mV⟩
 . simp only[Instr.alloc,newVar,newRow,Sem.run_bind,run_newObj_alloc,Result.andThen_ok,Sem.run_pure,y]
 . have F := Rel.ptr (c := c.bind nm ⟨w.heap.size, 0, a.size, a.size⟩) (w := w.alloc (.cells z.cells t)) (k := nm) (i := 0) (off := 0) (B := ⟨w.heap.size, 0, a.size, a.size⟩) (by simp [Ctx.bind])
   grind
theorem RZ (W:bZ P E)(L:aN G c w H){t:TypeId}{a:AV}{v:Value}(U:Rel c w a v){f:Nat}{x:bo ⊕ AV}(h:(KW E t a f).run H=some x) :
 aX G c w H nm x ((Instr.fieldAt t v f).run P w):=by
 obtain⟨Q,F,h⟩:=cL h;have Z:=W.ti t Q F;obtain⟨d,O,_,r⟩:=jW Z;cases g:Q.desc with
 | struct Y =>
   rw[g] at h r;dsimp only at h;cases I:Y[f]? with
   | none=>rw[I] at h;exact(aF h).elim
   | some q =>
     obtain⟨n,y,V⟩:=q;rw[I] at h;dsimp only at h;obtain⟨M,h⟩:=cz h;have M:0<y:=by simpa using M
     obtain⟨A,rfl,S,C⟩:=r;obtain⟨T,N,p,l,D,m,s,_⟩:=C f n y V I;have j:(sizeOf T.type).run P w = .ok y w:=by simp[sizeOf,typeInfo,D,m,s]
     have u:¬y=0:=aa;cases U with
     | @ptr _ _ k i o B J =>
       obtain rfl:=bE h;simp only[Instr.fieldAt,Sem.run_bind,O,Result.andThen_ok,p,Instr.sureAddr,Sem.run_pure,fieldPlace,j,u,zb8,add_plain,l];refine aX.quiet L ?_;have:=Rel.ptr (c:=c) (w:=w) (i:=i) (off:=o+n) J
       grind
     | @bm _ _ cs a vs hi hl hc hr =>
       obtain rfl:=bE h;simp only[Instr.fieldAt,Sem.run_bind,O,Result.andThen_ok,p,Instr.sureAddr,Sem.run_pure,fieldPlace,j,u,zb8,l];have K:=(aP.drop (c:=c.bare) (w:=w) ⟨hl,hr⟩ n);refine aX.quiet L (Rel.bm (by rw[block_add];exact hi) K.1 (fun i v e=>?_) K.2)
       rw[vO]
       grind
     | _=>exact(aF h).elim
 | _=>rw[g] at h;exact(aF h).elim
theorem qf {n:Int}{len:Nat}(h:aZ n len=true):0≤n∧n<len:=by simpa[aZ] using h
theorem TN (K:bZ P E)(I:aN G c w H){t:TypeId}{a ix:AV}{v iv:Value}(X:Rel c w a v)(s:Rel c w ix iv){x:bo ⊕ AV}(h:(yQ E t a ix).run H=some x) :
 aX G c w H nm x ((Instr.indexAt t v iv).run P w):=by
 obtain⟨ti,L,h⟩:=cL h;have ht:=K.ti t ti L;obtain⟨d,F,_,p⟩:=jW ht;cases l:ti.desc with
 | slice e =>
   rw[l] at h p;obtain rfl:d = .slice e:=p;cases s with
   | int k n =>
     obtain⟨r,q,h⟩:=cL h;have o:=kr (K.ti e r q) w;cases X with
     | @ay _ _ ka i A D O B a Q hs z C =>
       obtain⟨m,h⟩:=cz h;obtain rfl:=bE h;simp only[zbe,zb1] at m;obtain⟨u,M⟩:=m;obtain⟨f,g⟩:=qf M;obtain⟨rfl,_⟩:=C aa;simp only[Instr.indexAt,asIntOf,Sem.run_bind,Sem.run_pure,F,Result.andThen_ok,f,g,and_self,if_true,o,add_plain];refine aX.quiet I ?_;have:=Rel.ptr (c:=c) (w:=w) (i:=i+n.toNat) (off:=0) Q
       grind
     | @ak _ _ D es O a Z z hi N hc hr =>
       obtain⟨m,h⟩:=cz h;obtain⟨cs,U,h⟩:=nL h;obtain rfl:=bE h;simp only[zbe,zb1] at m;obtain⟨u,M⟩:=m;obtain⟨f,g⟩:=qf M;simp only[Instr.indexAt,asIntOf,Sem.run_bind,Sem.run_pure,F,Result.andThen_ok,f,g,and_self,if_true,o];have hlt:n.toNat<es.length:=aa;have hcl:=N _ cs U;refine aX.quiet I (Rel.bm (vs:=(List.range D).map fun j=>Z n.toNat j) (by rw[block_add];grind) bj (fun j v J=>?_) (fun j y v J e''=>?_))
       . have hj : j < D := by have := (zbn.1 J).1; simpa using this
         simp[hj] at J;subst J;rw[vO,<-u]
         grind
       grind
     | fh D =>
       obtain⟨m,h⟩:=cz h;simp only[zbe] at m;obtain⟨f,g⟩:=qf m.2
       grind
     | _=>exact(aF h).elim
   | _=>exact(aF h).elim
 | array A e =>
   rw[l] at h p;obtain rfl:d = .array A e:=p;cases s with
   | int k n =>
     obtain⟨r,q,h⟩:=cL h;have o:=kr (K.ti e r q) w;cases X with
     | @ptr _ _ ka i V B Q =>
       obtain⟨m,h⟩:=cz h;obtain rfl:=bE h;obtain⟨f,g⟩:=qf m;simp only[Instr.indexAt,asIntOf,Sem.run_bind,Sem.run_pure,F,Result.andThen_ok,Instr.sureAddr,f,g,and_self,if_true,o,add_plain];refine aX.quiet I ?_;have:=Rel.ptr (c:=c) (w:=w) (i:=i) (off:=V+n.toNat * r.size) Q
       grind
     | @bm _ _ cs a Z hi N hc hr =>
       obtain⟨m,h⟩:=cz h;obtain⟨ch,W,h⟩:=nL h;obtain⟨_,rfl⟩:=FU W;obtain rfl:=bE h;obtain⟨f,g⟩:=qf m;simp only[Instr.indexAt,asIntOf,Sem.run_bind,Sem.run_pure,F,Result.andThen_ok,Instr.sureAddr,f,g,and_self,if_true,o];have hR:=aP.take (aP.drop (c:=c.bare) (w:=w) ⟨N,hr⟩ (n.toNat * r.size)) r.size;refine aX.quiet I (Rel.bm (by rw[block_add];exact hi) hR.1 (fun i v e=>?_) hR.2)
       rw[vO]
       grind
     | _=>exact(aF h).elim
   | _=>exact(aF h).elim
 | _=>rw[l] at h;exact(aF h).elim
theorem R2 (B:bZ P E)(L:aN G c w H){t:TypeId}{a:AV}{v:Value}(F:Rel c w a v){f:Nat}{x:bo ⊕ AV}(h:(KV E t a f).run H=some x) :
 aX G c w H nm x ((Instr.field t v f).run P w):=by
 obtain⟨C,o,h⟩:=cL h;have J:=B.ti t C o;obtain⟨d,D,_,g⟩:=jW J;cases b:C.desc with
 | struct M =>
   rw[b] at h g;cases F with
   | @agg _ _ U Q R T =>
     dsimp only at h;cases s:M[f]? with
     | none=>rw[s] at h;exact(aF h).elim
     | some q =>
       obtain⟨m,N,A⟩:=q;rw[s] at h;obtain⟨I,l,h⟩:=cL h;obtain⟨k,rfl,K,p⟩:=g;obtain⟨S,z,n,i,r,u,y,_⟩:=p f m N A s;simp only[Instr.field,Sem.run_bind,D,Result.andThen_ok,n,asAgg,Sem.run_pure,r,i];exact Iq L (B.ti A I l) h ⟨aa,aa⟩
   | _=>exact(aF h).elim
 | _=>rw[b] at h;exact(aF h).elim
theorem TO (s:bZ P E)(M:aN G c w H){t:TypeId}{a F:AV}{v N:Value}(I:Rel c w a v)(o:Rel c w F N){x:bo ⊕ AV}(h:(yP E t a F).run H=some x) :
 aX G c w H nm x ((Instr.index t v N).run P w):=by
 obtain⟨K,z,h⟩:=cL h;have O:=s.ti t K z;obtain⟨d,L,_,g⟩:=jW O;cases b:K.desc with
 | array B e =>
   rw[b] at h g;obtain rfl:d = .array B e:=g;cases o with
   | int k n =>
     cases I with
     | @agg _ _ T U W V =>
       obtain⟨J,j,h⟩:=cL h;obtain⟨u,h⟩:=cz h;obtain⟨X,y,h⟩:=nL h;obtain⟨i,m⟩:=qf u;simp only[Instr.index,asIntOf,Sem.run_bind,Sem.run_pure,L,Result.andThen_ok,i,m,and_self,if_true,kr (s.ti e J j) w];exact Iq M (s.ti e J j) (U_ y h) ⟨aa,aa⟩
     | _=>exact(aF h).elim
   | _=>exact(aF h).elim
 | string =>
   rw[b] at h g;obtain rfl:d = .string:=g;cases o with
   | int k n =>
     cases I with
     | str l =>
       obtain⟨u,h⟩:=cz h;obtain rfl:=bE h;obtain⟨i,m⟩:=qf u;have p:n.toNat<l.length:=aa;have R:(⟨l.toArray⟩:ByteArray)[n.toNat]? = some l[n.toNat]:=by
        have C:n.toNat<(⟨l.toArray⟩:ByteArray).size:=by simpa[ByteArray.size] using p
        rw[getElem?_pos (⟨l.toArray⟩:ByteArray) n.toNat C];rfl
       simp only[Instr.index,asIntOf,Sem.run_bind,Sem.run_pure,L,Result.andThen_ok,i,if_true,R];have:l.getD n.toNat 0=l[n.toNat]:=by simp[getD,zbf p]
       rw[this];exact aX.quiet M (.int .u8 _)
     | _=>exact(aF h).elim
   | _=>exact(aF h).elim
 | _=>rw[b] at h;exact(aF h).elim
end
end Go.Ago
end
