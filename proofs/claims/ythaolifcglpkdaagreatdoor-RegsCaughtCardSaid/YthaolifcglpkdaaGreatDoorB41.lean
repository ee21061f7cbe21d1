/-
  Part B41: lemmas, each with its own conditions.
-/
import Derived.Test.YthaolifcglpkdaaGreatDoorB40
set_option maxRecDepth 100000
set_option maxHeartbeats 0
set_option linter.all false
namespace Go.Ago
open Go.Proofs List Nat Tryz
def eF (R:Int->Prop)(a b:Ins):Prop:=b=a∨(a.op=16∧R a.p∧∃x,b={ a with n:=x })
def cT (R:Int->Prop)(xs ys:List Ins):Prop:=ys.length=xs.length∧∀(m:Nat) (h:m<xs.length) (a:m<ys.length),eF R xs[m] ys[m]
theorem eF.mono {R R':Int->Prop}(h:∀p,R p->R' p){a b:Ins}(d:eF R a b):eF R' a b:=d.imp id fun ⟨e,f,c⟩=>⟨e,h _ f,c⟩
theorem eF.key {R:Int->Prop}{a b:Ins}(h:eF R a b):b.op=a.op∧b.p=a.p∧b.d=a.d∧b.a=a.a∧b.b=a.b∧b.m=a.m∧b.l=a.l∧(b.n=a.n∨a.op=16∧R a.p):=by
 rcases h with rfl|⟨e,c,x,rfl⟩
 . simp
 grind
theorem eF.trans {R:Int->Prop}{a b c:Ins}(g:eF R a b)(d:eF R b c):eF R a c:=by
 rcases g with rfl|⟨e,f,x,rfl⟩
 . exact d
 rcases d with rfl|⟨i,h,y,rfl⟩
 . exact .inr ⟨e,f,x,rfl⟩
 exact .inr ⟨e,f,y,rfl⟩
theorem eF.nT {R:Int->Prop}{a b:Ins}(h:eF R a b):bP b=bP a:=by
 rcases h with rfl|⟨c,_,x,rfl⟩
 . rfl
 unfold bP;grind
theorem eF.jm {R:Int->Prop}{a b:Ins}(h:eF R a b):aQ b=aQ a:=by
 rcases h with rfl|⟨c,_,x,rfl⟩<;>rfl
theorem eF.gx {R:Int->Prop}{a b:Ins}(h:eF R a b):aH b=aH a:=by
 rcases h with rfl|⟨c,_,x,rfl⟩<;>rfl
theorem eF.uu {R:Int->Prop}{a b:Ins}(h:eF R a b):cS b↔cS a:=by
 rcases h with rfl|⟨c,_,x,rfl⟩
 . rfl
 rfl
theorem eF.v {R:Int->Prop}{a b:Ins}(h:eF R a b){n:Int}{m:Nat}(c:InsV n m a):InsV n m b:=by
 obtain⟨_,_,f,g,i,_,e,_⟩:=h.key;exact⟨by rw[g];exact c.a,by rw[i];exact c.b,by rw[f];exact c.d,by rw[e];exact c.l,by rw[h.nT];exact c.t⟩
theorem cT.refl {R:Int->Prop}(l:List Ins):cT R l l:=⟨rfl,fun _ _ _ => .inl rfl⟩
theorem cT.mono {R R':Int->Prop}(h:∀p,R p->R' p){a b:List Ins}(c:cT R a b):cT R' a b:=⟨c.1,fun m e d=>(c.2 m _ _).mono h⟩
theorem cT.trans {R:Int->Prop}{a b c:List Ins}(d:cT R a b)(e:cT R b c):cT R a c:=
 ⟨e.1.trans d.1,fun m f g=>(d.2 m _ _).trans (e.2 m (by rw[d.1];exact f) _)⟩
theorem cT.mem {R:Int->Prop}{a b:List Ins}(h:cT R a b){i:Ins}(hi:i∈b):∃d∈a,eF R d i:=by
 obtain⟨m,e,rfl⟩:=zbo.1 hi;have c:m<a.length:=by rw[<-h.1];exact e
 exact⟨a[m],za9 _,h.2 m _ _⟩
structure N4 (c:Cd)(q:Nat)(out:Cd):Prop where
 len:out.b.l.length=c.b.l.length
 xX:∀(j:Nat) (h:j<c.b.l.length) (h':j<out.b.l.length),j≠q->out.b.l[j].ah=c.b.l[j].ah∧cT (fun p=>p=(q:Int)) c.b.l[j].ins.l out.b.l[j].ins.l
 own:∀(h:q<c.b.l.length) (h':q<out.b.l.length),∀i∈out.b.l[q].ins.l,i.op=16->i.p≠(q:Int)->∃i0∈c.b.l[q].ins.l,i0.op=16∧i0.p=i.p∧i0.n=i.n
 eT:∀(h:q<c.b.l.length) (h':q<out.b.l.length),out.b.l[q].ins.l.length≤4 * c.b.l[q].ins.l.length
def Ah (c:Cd)(k:Int)(j:Nat):Prop:=∃g S n,cZ c (j:Int) g∧g_ g∧fD g S∧vL g S n∧n≤k
structure jD (c:Cd)(k:Int)(q:Nat)(d:Cd)(of:List (List Int)):Prop where
 len:d.b.l.length=c.b.l.length
 le:q≤c.b.l.length
 todo:∀(j:Nat) (h:j<c.b.l.length) (h':j<d.b.l.length),q≤j->d.b.l[j].ah=c.b.l[j].ah∧cT (fun p=>p<(q:Int)) c.b.l[j].ins.l d.b.l[j].ins.l
 goto:∀b∈d.b.l,∀i∈b.ins.l,i.op=16->(q:Int)≤i.p->∃b0∈c.b.l,∃i0∈b0.ins.l,i0.op=16∧i0.p=i.p∧i0.n=i.n
 done:∀(j:Nat) (h:j<c.b.l.length) (h':j<d.b.l.length),j<q->Ah c k j->d.b.l[j].ah=k∧d.b.l[j].ins.l.length=c.b.l[j].ins.l.length
 gU:of.length=q
 Jk:∀(j:Nat) (h:j<of.length),Ah c k j->¬(-1:Int)∈of[j]
 Jj:∀l∈of,l.length<281474976710656
 eT:∀(j:Nat) (h:j<c.b.l.length) (h':j<d.b.l.length),d.b.l[j].ins.l.length≤4 * c.b.l[j].ins.l.length
theorem jD.start (c:Cd)(k:Int):jD c k 0 c []:=
 ⟨rfl,zbq _,fun j h a _=>⟨rfl,cT.refl _⟩,fun b e i f g _=>⟨b,e,i,f,g,rfl,rfl⟩,fun j h a d=>absurd d (ag),rfl,fun j h=>absurd h (ag),(fun l h=>by cases h),fun j h a=>aa⟩
theorem jD.gotoIn {c d:Cd}{k:Int}{q:Nat}{o:List (List Int)}(h:jD c k q d o)(n:qZ c)(s:q<c.b.l.length):tJ d (q:Int) c.b.l[q].ins.l.length:=by
 intro b g i m f u;obtain⟨v,e,t,a,p,w,x⟩:=h.goto b g i m f aa;obtain⟨j,y,rfl⟩:=zbo.1 e;obtain⟨z,A,B,r⟩:=lB n _ a p
 grind
theorem jD.graph {c d:Cd}{k:Int}{q:Nat}{y:List (List Int)}(h:jD c k q d y)(w:qZ c)(r:dS c 250 60)(n:q<c.b.l.length){g:Gr}(E:cZ d (q:Int) g):gA g:=by
 obtain⟨D,z,C,e,A⟩:=E;have s:q<d.b.l.length:=by simpa using D
 have p:g.ins=d.b.l[q].ins:=by simpa using z
 have G:g.ah=d.b.l[q].ah:=by simpa using C
 obtain⟨H,o⟩:=h.todo q n s (zbm _);obtain⟨K,B⟩:=jw w n;have a:=za9 n;have J:=r.ah _ a;have I:=r.fH _ a;have u:=ki a;have F:=r.sum;have f:g.ins.l.length=c.b.l[q].ins.l.length:=by rw[p];exact o.1
 refine Hw aa aa (fun i j=>?_) (fun i j=>?_) A ?_
 . rw [p] at j
   obtain⟨x,m,t⟩:=o.mem j;rw[G,H,f];exact t.v (B x m)
 . rw [p] at j
   obtain⟨x,m,t⟩:=o.mem j;rw[t.key.2.2.2.2.2.2.1]
   grind
 . rw[f];exact h.gotoIn w n
theorem jD.str {c d:Cd}{k:Int}{q:Nat}{F:List (List Int)}(h:jD c k q d F)(G:bU c=0)(Z:q<c.b.l.length){g j:Gr}(hg:cZ d (q:Int) g)(y:cZ c (q:Int) j)(s:g_ j) :
 g_ g∧g.ah=j.ah∧cT (fun p=>p<(q:Int)) j.ins.l g.ins.l∧g.entries.l=[]:=by
 obtain⟨H,O,P,e,M⟩:=hg;obtain⟨V,B,v,e0,u⟩:=y;have z:q<d.b.l.length:=by simpa using H
 have I:g.ins=d.b.l[q].ins:=by simpa using O
 have a2:g.ah=d.b.l[q].ah:=by simpa using P
 have K:j.ins=c.b.l[q].ins:=by simpa using B
 have b2:j.ah=c.b.l[q].ah:=by simpa using v
 obtain⟨t1,N⟩:=h.todo q Z z (zbm _);have t:cT (fun p=>p<(q:Int)) j.ins.l g.ins.l:=by rw[I,K];exact N
 have f:g.entries.l=[]:=by
  rcases M with⟨_,_,r⟩|⟨_,_,_,r⟩|⟨_,_,_,_,a,_⟩
  . exact r
  . exact r
  . refine zcE.2 fun x Q => ?_
    obtain⟨b,R,i,S,T,h4,rfl⟩:=oE.1 ((a x).1 Q);obtain⟨J,w,L,A,X,c2,Y⟩:=h.goto b R i S T aa;rcases u with⟨r,_,_⟩|⟨_,r,_,_⟩|⟨_,_,_,_,U,_⟩
    . omega
    . omega
    . have := (U i.n).2 (oE.2 ⟨J, w, L, A, X, aa, Y.symm⟩)
      rw[s.1] at this
      grind
 refine⟨⟨f,fun m E hm2=>?_⟩,aa,t,f⟩
 have o:m<j.ins.l.length:=by rw[<-t.1];exact E
 have C:=t.2 m o E;have:=s.2 m o o;rw[C.nT,C.uu,t.1];omega
theorem VL {a b:List Ins}(h:a.map me=b.map me):a.length=b.length:=by
 have:=zbc length h
 grind
theorem VM {a b:List Ins}(h:a.map me=b.map me){i:Ins}(hi:i∈a):∃c∈b,c.op=i.op∧c.p=i.p∧c.n=i.n:=by
 have:me i∈b.map me:=by grind
 grind
theorem tc {c:Cd}{q:Nat}{a:Bd}{j:Nat}(h:j<c.b.l.length)(d:j<(kU c q a).b.l.length):(kU c q a).b.l[j]=if q=j then a else c.b.l[j]:=by
 show(c.b.l.set q _)[j]'bj=_
 grind
theorem Em {c:Cd}{q:Nat}{a:Bd}:(kU c q a).b.l.length=c.b.l.length:=by show(c.b.l.set q _).length=_;simp
theorem jD.fits {c d:Cd}{k:Int}{q:Nat}{A:List (List Int)}(h:jD c k q d A)(D:q<c.b.l.length){g:Gr}(L:cZ d (q:Int) g){o:Bd}(P:o.ah=k)(E:o.ins.l.map me=g.ins.l.map me) :
 jD c k (q+1) (kU d q o) (A++[a_ o.ins.l.length]):=by
 obtain⟨B,J,Q,e,V⟩:=L;have s:q<d.b.l.length:=by simpa using B
 have C:g.ins=d.b.l[q].ins:=by simpa using J
 have I:o.ins.l.length=d.b.l[q].ins.l.length:=by rw[VL E,C]
 have t:=h.todo q D s (zbm _);have Y:d.b.l[q].ins.l.length=c.b.l[q].ins.l.length:=t.2.1;refine⟨Em.trans h.len,D,fun j m n x=>?_,fun b y i v H x=>?_,fun j m n r z=>?_,by rw[zbk,h.gU];rfl,fun j m z=>?_,fun l u=>?_,fun j m n=>?_⟩
 . have a : j < d.b.l.length := by rw [h.len]; exact m
   rw[tc a n,if_neg aa];obtain⟨K,G⟩:=h.todo j m a aa;exact⟨K,G.mono fun p B=>aa⟩
 . obtain ⟨j, m, rfl⟩ := zbo.1 y
   have a:j<d.b.l.length:=by rw[<-Em];exact m
   rw[tc a m] at v
   by_cases f:q=j
   . rw [if_pos f] at v
     obtain⟨M,w,R,S,T⟩:=VM E v;rw[C] at w;obtain⟨U,N,X,O,Z,f2,f3⟩:=h.goto _ (za9 s) M w aa aa
     grind
   . rw [if_neg f] at v
     exact h.goto _ (za9 a) i v H aa
 . have a : j < d.b.l.length := by rw [h.len]; exact m
   rw[tc a n]
   by_cases f:q=j
   . grind
   . rw[if_neg f];exact h.done j m a aa z
 . rw [getElem_append]
   split
   . rename_i r;exact h.Jk j r z
   . rw [zcL]
     intro F;have:=sq.1 F;omega
 . rcases zbL.1 u with u | u
   . exact h.Jj l u
   . rw[zbU.1 u,ib];exact o.ins.h
 . have a : j < d.b.l.length := by rw [h.len]; exact m
   rw[tc a n]
   by_cases f:q=j
   . grind
   . rw[if_neg f];exact h.eT j m a
theorem jD.Ls {c d:Cd}{k:Int}{q:Nat}{D:List (List Int)}(h:jD c k q d D)(F:q<c.b.l.length)(Y:¬Ah c k q){n:Cd}(m:N4 d q n)(x:List Int)(H:x.length<281474976710656):jD c k (q+1) n (D++[x]):=by
 have w:q<d.b.l.length:=by rw[h.len];exact F
 have T:q<n.b.l.length:=by rw[m.len];exact w
 refine⟨m.len.trans h.len,F,fun j e g y=>?_,fun b z i E K y=>?_,fun j e g s B=>?_,by rw[zbk,h.gU];rfl,fun j e B=>?_,fun l t=>?_,fun j e g=>?_⟩
 . have a : j < d.b.l.length := by rw [h.len]; exact e
   obtain⟨L,Q⟩:=h.todo j e a aa;obtain⟨u,o⟩:=m.xX j a g aa;exact⟨u.trans L,(Q.mono fun p I=>aa).trans (o.mono fun p I=>aa)⟩
 . obtain ⟨j, e, rfl⟩ := zbo.1 z
   have a:j<d.b.l.length:=by rw[<-m.len];exact e
   by_cases f:j=q
   . subst f
     obtain⟨v,r,M,e2,e3⟩:=m.own a e i E K aa;obtain⟨P,A,R,C,J,U,N⟩:=h.goto _ (za9 a) v r M aa
     grind
   . obtain ⟨_, o⟩ := m.xX j a e f
     obtain⟨v,r,O⟩:=o.mem E;obtain⟨k1,Z,_,_,_,_,_,k8⟩:=O.key;obtain⟨P,A,R,C,J,U,N⟩:=h.goto _ (za9 a) v r aa aa
     grind
 . have a : j < d.b.l.length := by rw [h.len]; exact e
   by_cases f:j=q
   . grind
   . obtain ⟨u, o⟩ := m.xX j a g f
     obtain⟨S,V⟩:=h.done j e a aa B;exact⟨u.trans S,o.1.trans V⟩
 . rw [getElem_append]
   split
   . rename_i s;exact h.Jk j s B
   . rename_i X
     have:j=q:=by rw[zbk,h.gU] at e;have:=h.gU;simp only[length_singleton] at e;omega
     grind
 . rcases zbL.1 t with t | t
   . exact h.Jj l t
   grind
 . have a : j < d.b.l.length := by rw [h.len]; exact e
   by_cases f:j=q
   . subst f
     have h1:=m.eT a g;obtain⟨_,G⟩:=h.todo j e a (zbm _);have:=G.1;omega
   . obtain ⟨u, o⟩ := m.xX j a g f
     rw[o.1];exact h.eT j e a
end Go.Ago
section
namespace Go.Ago
open Go.Proofs List Nat Tryz
def bq {α:Type}(f:α->α)(rows:List α)(j:Nat):List α:=(rows.take j).map f++rows.drop j
section
variable {α:Type} {f:α->α} {rows:List α} {j:Nat}
theorem pU:bq f rows 0=rows:=rfl
theorem pV (h:j=rows.length):bq f rows j=rows.map f:=by subst h;simp[bq]
theorem gK (f:α->α)(rows:List α){j:Nat}:(bq f rows j).length=rows.length:=by simp[bq];omega
theorem rO (h:j<rows.length)(a:j<(bq f rows j).length):(bq f rows j)[j]=rows[j]:=by
 have:(bq f rows j)[j]? = rows[j]?:=by
  unfold bq
  grind
 grind
theorem rP (h:j<rows.length):(bq f rows j).set j (f rows[j])=bq f rows (j+1):=by
 unfold bq;rw[set_append_right _ _ bj,zbi h,zb9,zch];rw[show j - ((rows.take j).map f).length=0 by grind,zcr h]
 rfl
theorem RV (h:j<rows.length)(b:f rows[j]=rows[j]):bq f rows (j+1)=bq f rows j:=by
 rw[<-rP h,b];have:(bq f _ j)[j]'(by rw[gK];exact h)=rows[j]:=rO h _
 rw[<-this,set_getElem_self]
theorem GN (h:j<rows.length)(x:α):(bq f rows j).set j x=(bq f rows (j+1)).set j x:=by
 rw[<-rP h,set_set]
end
def bT (q:Nat)(tl:List Int)(i:Ins):Ins:=if i.op=16∧i.p=(q:Int) then { i with n:=tl.getD i.n.toNat 0 } else i
def W5 (q:Nat)(tl:List Int)(l:BL Ins):BL Ins:=⟨l.l.map (bT q tl),by rw[zba];exact l.h⟩
def kk (q:Nat)(tl:List Int)(b:Bd):Bd:=⟨b.ah,W5 q tl b.ins⟩
theorem x_ {q:Nat}{tl:List Int}{i:Ins}(b:i.op=16)(a:i.p=(q:Int)){h:i.n.toNat<tl.length}:bT q tl i={ i with n:=tl[i.n.toNat] }:=by
 unfold bT;grind
theorem xZ {q:Nat}{tl:List Int}{i:Ins}(h:¬(i.op=16∧i.p=(q:Int))):bT q tl i=i:=by unfold bT;grind
def z_ (b:List Ins)(y:Ins):Prop:=y.op=3∨∃a∈b,y.op=a.op∧y.p=a.p∧y.n=a.n∧y.m=a.m
theorem yV (i:Ins)(tl:List Int):(cB i tl).op=i.op∧(cB i tl).p=i.p∧(i.op=16->(cB i tl)=i):=by
 unfold cB
 grind
theorem WK {b rows:List Ins}{tl:List Int}(c:∀y∈rows,z_ b y){i:Ins}(hi:i∈rows.map fun i=>cB i tl)(h:i.op=16):∃a∈b,a.op=16∧a.p=i.p∧a.n=i.n:=by
 obtain⟨y,d,rfl⟩:=zbG.1 hi;obtain⟨f,g,j⟩:=yV y tl;rcases c y d with k|⟨a,l,m,o,e,_⟩
 . omega
 grind
def ku (c:Cd)(q:Nat)(tl:List Int)(a:Bd):Cd:=⟨c.p,⟨(c.b.l.map (kk q tl)).set q a,by rw[zbP,zba];exact c.b.h⟩⟩
abbrev je (r:Int)(k len:Nat):List AV:=[i64 r,.ay k 0 len 29]
def eW (q:Nat)(tl:List Int)(l:List Bd)(kn:Int)(k len n:Nat):List (List AV):=((bq (kk q tl) l n).map Bd.cells).set q (je kn k len)
def dB (q:Nat)(tl:List Int)(l:List Bd)(a:Bd)(n:Nat):List (List AV):=((bq (kk q tl) l n).set q a).map Bd.cells
theorem sC {rows:List (List AV)}{n:Nat}{e:List AV}{k:Nat}(a:k=n)(h:n<rows.length):(rows.set n e)[k]? = some e:=by grind
theorem C8 {q:Nat}{tl:List Int}{l:List Bd}{kn:Int}{k len n m:Nat}(a:m=n)(h:n<l.length)(b:n≠q):(eW q tl l kn k len n)[m]? = some (l[n].cells):=by
 subst a;show(List.set _ q _)[m]? = _;rw[zbV aa,zbC,zbf (by rw[gK];exact h),rO h _]
 rfl
theorem sG {q:Nat}{tl:List Int}{l:List Bd}{kn:Int}{k len n m:Nat}(a:m=q)(h:q<l.length):(eW q tl l kn k len n)[m]? = some (je kn k len):=by
 subst a;show(List.set _ _ _)[_]? = _;rw[zci (by rw[zba,gK];exact h)]
theorem C7 {q:Nat}{tl:List Int}{l:List Bd}{b:Bd}{n m:Nat}(a:m=n)(h:n<l.length)(c:n≠q):(dB q tl l b n)[m]? = some (l[n].cells):=by
 subst a;show(List.map _ _)[m]? = _;rw[zbC,zbV aa,zbf (by rw[gK];exact h),rO h _]
 rfl
theorem Ya {q:Nat}{tl:List Int}{l:List Bd}{kn:Int}{k len n:Nat}:(eW q tl l kn k len n).length=l.length:=by simp[eW,gK]
theorem Yb {q:Nat}{tl:List Int}{l:List Bd}{a:Bd}{n:Nat}:(dB q tl l a n).length=l.length:=by simp[dB,gK]
theorem C9 {q:Nat}{tl:List Int}{l:List Bd}{kn:Int}{k len n:Nat}(h:n<l.length)(b:n≠q){r:List AV}(a:r=(kk q tl l[n]).cells):(eW q tl l kn k len n).set n r=eW q tl l kn k len (n+1):=by
 subst a;show(List.set _ q _).set n _=_;rw[set_comm _ _ aa,<-zcD,rP h];rfl
theorem Xj {q:Nat}{tl:List Int}{l:List Bd}{kn:Int}{k len:Nat}(h:q<l.length){a:Bd}{r:List AV}(b:r=a.cells):(eW q tl l kn k len q).set q r=dB q tl l a (q+1):=by
 subst b;show(List.set _ q _).set q _=_;rw[set_set,<-zcD,GN h];rfl
theorem JM {q:Nat}{tl:List Int}{l:List Bd}{a:Bd}{n:Nat}(h:n<l.length)(c:n≠q){r:List AV}(b:r=(kk q tl l[n]).cells):(dB q tl l a n).set n r=dB q tl l a (n+1):=by
 subst b;show(List.map _ _).set n _=_;rw[<-zcD,set_comm _ _ aa,rP h];rfl
theorem wi {ρ:Nat->Nat}{l:List Bd}:(l.map Bd.cells).map (List.map (AV.r1 ρ))=l.map Bd.cells:=by
 rw[zcz];rfl
theorem OO {ρ:Nat->Nat}{b:Bd}:b.cells.map (AV.r1 ρ)=b.cells:=rfl
theorem xY {ρ:Nat->Nat}{r:Int}{k len:Nat}(a:ρ k=k):(je r k len).map (AV.r1 ρ)=je r k len:=by
 show[i64 r,.ay _ 0 _ _]=_;rw[a]
theorem oO {ρ:Nat->Nat}{s q:Nat}{tl:List Int}{l:List Bd}{kn:Int}{k len n:Nat}{es:List (List AV)}(h:es=eW q tl l kn k len n)(a:ρ k=k):an.arr s es=an.cp ρ (.arr s (eW q tl l kn k len n)):=by
 subst h;simp only[an.cp,eW,zcD,wi,xY a]
theorem qz {ρ:Nat->Nat}{s q:Nat}{tl:List Int}{l:List Bd}{a:Bd}{n:Nat}{es:List (List AV)}(h:es=dB q tl l a n):an.arr s es=an.cp ρ (.arr s (dB q tl l a n)):=by
 subst h;simp only[an.cp,dB,wi]
theorem JR {ρ:Nat->Nat}{s q:Nat}{tl:List Int}{l:List Bd}{kn:Int}{k len n m:Nat}{r:Int}{k' a:Nat}{es:List (List AV)}(h:es=(eW q tl l kn k len n).set m (je r k' a))(c:ρ k=k)(b:ρ k'=k'):an.arr s es=an.cp ρ (.arr s ((eW q tl l kn k len n).set m (je r k' a))):=by
 subst h;simp only[an.cp,eW,zcD,wi,xY c,xY b]
theorem yj {ρ:Nat->Nat}{s q:Nat}{tl:List Int}{l:List Bd}{c:Bd}{n m:Nat}{r:Int}{k' a:Nat}{es:List (List AV)}(h:es=(dB q tl l c n).set m (je r k' a))(b:ρ k'=k'):an.arr s es=an.cp ρ (.arr s ((dB q tl l c n).set m (je r k' a))):=by
 subst h;simp only[an.cp,dB,zcD,wi,xY b,OO]
theorem vQ {α:Type}{p:α->Bool}{l:List α}{i:Nat}{x:α}(h:l.all p=true)(a:p x=true):(l.set i x).all p=true:=by
 grind
theorem wh {n:Nat}{l:List Bd}:((l.map Bd.cells).all fun e=>e.all (AV.l1 n))=true:=by
 rw[all_map,zbr];intro x _;rfl
theorem BJ {nm:Nat}{o:an}{sz n:Nat}{rows:List (List AV)}{a x y:AV}(h:fC nm o x y){es g:List (List AV)}(k:es=rows.set n [a,x])(c:g=rows.set n [a,y]):iu nm o (.arr sz es) (.arr sz g):=by
 subst k;subst c;refine .inr ⟨sz,_,_,rfl,rfl,ag,fun i f c=>?_⟩
 by_cases d:n=i
 . subst d
   rw[getElem?_set_self'] at c ⊢;cases l:rows[n]? with
   | none=>grind
   | some e =>
     rw[l] at c;obtain rfl:=zbE c;refine⟨_,rfl,rfl,fun j z b=>?_⟩
     match j,b with
     | 0,b=>obtain rfl:=zbE b;exact⟨_,rfl,.inl rfl⟩
     | 1,b=>grind
     | (j+2),b=>cases b
 . rw [zbV d] at c
   refine⟨f,by grind,rfl,fun j z b=>⟨z,b,.inl rfl⟩⟩
theorem xd {X len:Nat}{L:List Ins}{es:List (List AV)}(h:es=L.map Ins.cells)(a:len=L.length):fC X (.arr 29 es) (.ay X 0 len 29) (.ak 29 (L.map Ins.cells)):=by
 subst h;subst a;exact .inr (fj (fun _=>rfl) (by rw[Tr.get,zcK];rfl) rfl rfl)
theorem SI {q:Nat}{tl:List Int}{l:List Bd}{kn:Int}{k len:Nat}{a:Bd}{nm:Nat}{o:an}{L:List Ins}(h:q<l.length)(c:fC nm o (.ay k 0 len 29) (.ak 29 (L.map Ins.cells)))(b:a.cells=[i64 kn,.ak 29 (L.map Ins.cells)]) :
 iu nm o (.arr 2 (eW q tl l kn k len q)) (.arr 2 (dB q tl l a (q+1))):=
 BJ c rfl (by
  rw[<-Xj (kn:=kn) (k:=k) (len:=len) h rfl,b];show(List.set _ q _).set q _=_;simp)
theorem SK {q:Nat}{tl:List Int}{l:List Bd}{kn:Int}{k len n X a:Nat}{nm:Nat}{o:an}{r:Int}(h:n<l.length)(c:n≠q)(d:r=l[n].ah)(b:fC nm o (.ay X 0 a 29) (.ak 29 ((l[n].ins.l.map (bT q tl)).map Ins.cells))) :
 iu nm o (.arr 2 ((eW q tl l kn k len n).set n (je r X a))) (.arr 2 (eW q tl l kn k len (n+1))):=by
 subst d;exact BJ b rfl (C9 h c rfl).symm
theorem Hi {q:Nat}{tl:List Int}{l:List Bd}{b:Bd}{n X a:Nat}{nm:Nat}{o:an}{r:Int}(h:n<l.length)(d:n≠q)(e:r=l[n].ah)(c:fC nm o (.ay X 0 a 29) (.ak 29 ((l[n].ins.l.map (bT q tl)).map Ins.cells))) :
 iu nm o (.arr 2 ((dB q tl l b n).set n (je r X a))) (.arr 2 (dB q tl l b (n+1))):=by
 subst e;exact BJ c rfl (JM h d rfl).symm
theorem sF {s nx:Nat}{q:Nat}{tl:List Int}{l:List Bd}{kn:Int}{k len n:Nat}(h:(je kn k len).all (AV.l1 nx)=true):an.lt nx (.arr s (eW q tl l kn k len n)):=vQ wh h
theorem yh {s nx:Nat}{q:Nat}{tl:List Int}{l:List Bd}{a:Bd}{n:Nat}:an.lt nx (.arr s (dB q tl l a n)):=wh
theorem JQ {s nx:Nat}{q:Nat}{tl:List Int}{l:List Bd}{kn:Int}{k len n m:Nat}{e:List AV}(h:(je kn k len).all (AV.l1 nx)=true)(a:e.all (AV.l1 nx)=true):an.lt nx (.arr s ((eW q tl l kn k len n).set m e)):=vQ (vQ wh h) a
theorem yi {s nx:Nat}{q:Nat}{tl:List Int}{l:List Bd}{b:Bd}{n m:Nat}{e:List AV}(a:e.all (AV.l1 nx)=true):an.lt nx (.arr s ((dB q tl l b n).set m e)):=vQ wh a
theorem Xk {q:Nat}{tl:List Int}{l:List Bd}{kn:Int}{k len:Nat}:(l.map Bd.cells).set (0+((q:Int)).toNat) (je kn k len)=eW q tl l kn k len 0:=by simp[eW,pU]
theorem sD {q:Nat}{tl:List Int}{L:List Ins}{j:Nat}(h:j<L.length)(a:((j:Int)).toNat<(bq (bT q tl) L j).length):(bq (bT q tl) L j)[((j:Int)).toNat]=L[j]:=rO h _
theorem ya {q:Nat}{tl:List Int}{L:List Ins}{j:Nat}(h:j<L.length)(b:((j:Int)).toNat<(bq (bT q tl) L j).length){e:List AV}(a:e=(bT q tl ((bq (bT q tl) L j)[((j:Int)).toNat])).cells):((bq (bT q tl) L j).map Ins.cells).set (0+((j:Int)).toNat) e=(bq (bT q tl) L (j+1)).map Ins.cells:=by
 subst a;rw[sD h,zce,zbt,<-zcD,rP h]
theorem yb {q:Nat}{tl:List Int}{L:List Ins}{j:Nat}(h:j<L.length)(b:((j:Int)).toNat<(bq (bT q tl) L j).length)(a:¬(((bq (bT q tl) L j)[((j:Int)).toNat]).op=16∧((bq (bT q tl) L j)[((j:Int)).toNat]).p=(q:Int))):(bq (bT q tl) L j).map Ins.cells=(bq (bT q tl) L (j+1)).map Ins.cells:=by
 rw[sD h] at *;rw[RV h (xZ a)]
end Go.Ago
end
section
namespace Go.Ago
open Go.Proofs List Nat Tryz
theorem YG {i:Ins}{w w':List Int}:aH (d_ i w w')=if 0≤aH i then w'.getD (aH i).toNat 0 else aH i:=by
 have e:(d_ i w w').op=i.op:=rfl;have a:(d_ i w _).d=if 0≤aH i then w'.getD _ 0 else i.d:=rfl
 unfold aH at *
 grind
theorem RW {i:Ins}{w w':List Int}:cS (d_ i w w')↔cS i:=Iff.rfl
theorem XC {i:Ins}{w w':List Int}:iw (d_ i w w')↔iw i:=Iff.rfl
theorem zab {i:Ins}{w w':List Int}:bP (d_ i w w')=bP i:=rfl
theorem zav {i:Ins}{w w':List Int}(h:∀r∈aQ i,0≤r∧0≤w.getD r.toNat 0):aQ (d_ i w w')=(aQ i).map fun r=>w.getD r.toNat 0:=by
 have k:(d_ i w w').a=db w i.a:=rfl;have m:(d_ i w w').b=db w i.b:=rfl;have n:(d_ i w w').l.l=i.l.l.map (db w):=rfl;have o:(d_ i w w').op=i.op:=rfl;have d:∀r∈aQ i,db w r=w.getD r.toNat 0:=fun r f=>by unfold db;grind
 have one:∀(c:Prop) [Decidable c] (r:Int),(c∧r≠-1->r∈aQ i)->(if c∧db w r≠-1 then [db w r] else [])=(if c∧r≠-1 then [r] else []).map fun r=>w.getD r.toNat 0:=by
  intro c _ r j;have p:db w (-1) = -1:=by unfold db;rw[if_pos aa]
  by_cases e:c
  . by_cases f : r = -1
    . grind
    . have g := j ⟨e, f⟩
      have s:=d r g;have t:=(h r g).2;have u:c∧db w r≠-1:=⟨e,aa⟩
      grind
  . grind
 unfold aQ at d ⊢;rw[k,m,n,o,zb9,zb9];rw[one _ i.a (fun e=>by unfold aQ;grind),one _ i.b (fun e=>by unfold aQ;grind)]
 congr 1
 by_cases q:hasB i.op 76=true
 . simp_all
 grind
theorem eF.quiet {R:Int->Prop}{a b:Ins}(h:eF R a b):iw b↔iw a:=by
 rcases h with rfl|⟨c,_,x,rfl⟩
 . rfl
 grind
def sb:Ins:=⟨3,0,0,-1,⟨0,0,0,false,[],ab⟩,⟨0,0,0,false,[],ab⟩,⟨0,0,0,false,[],ab⟩,0,0,0,⟨0,[],ab⟩,⟨[],ab⟩,⟨[],ab⟩,⟨[],ab⟩,false,false⟩
def nR (x y:Ins)(o:Int):mS:=if o<0 then .mv y.d y.a else .op (decide (cS y)) (aH x) (aH y)
def bM (C:List Ins)(o:List Int)(g:Gr):Sk:=
 ⟨(List.range g.ins.l.length).map fun p=>nR (C.getD (o.getD p 0).toNat sb) (g.ins.l.getD p sb) (o.getD p 0),(List.range g.ins.l.length).map (aY g),g.entries.l⟩
theorem kT {C:List Ins}{o:List Int}{g:Gr}:(bM C o g).st.length=g.ins.l.length:=by simp[bM]
theorem DI {C:List Ins}{o:List Int}{g:Gr}{p:Nat}{s:mS}(h:(bM C o g).st[p]? = some s):p<g.ins.l.length∧s=nR (C.getD (o.getD p 0).toNat sb) (g.ins.l.getD p sb) (o.getD p 0):=by
 simp only[bM,zbC] at h
 grind
theorem DH {C:List Ins}{o:List Int}{g:Gr}{p:Nat}(h:p<g.ins.l.length):(bM C o g).iU.getD p []=aY g p:=by
 simp[bM,h]
theorem ej {α:Type}{l:List α}{p:Nat}{z:α}(h:p<l.length):l.getD p z=l[p]:=by grind
theorem mq {n p:Nat}(h:p<n):(a_ n).getD p 0=(p:Int):=by simp[a_,h]
theorem OE {g a:Gr}(c:a.ins.l.length=g.ins.l.length)(d:∀(p:Nat) (h:p<g.ins.l.length) (e:p<a.ins.l.length),bP a.ins.l[p]=bP g.ins.l[p]∧(iw a.ins.l[p]↔iw g.ins.l[p]))(b:∀x∈a.entries.l,x∈g.entries.l){p:Nat}{t:Int}(h:t∈aY a p):t∈aY g p:=by
 unfold aY at *
 grind
def pq (g:Gr)(S:List (List aA))(W:Nat->List Int)(p:Nat)(l r:Int):Prop:=0≤r∧r<g.ah∧hJ S p r.toNat∧(W p).getD r.toNat 0=l
section
variable {C:List Ins} {g gd:Gr} {S:List (List aA)} {k:Int} {W:Nat->List Int} {B:List Ins} {R R':Int->Prop}
theorem BA (f:j3 g S k W B)(c:cT R C g.ins.l)(d:cT R' B gd.ins.l){p:Nat}(i:p<gd.ins.l.length) :
 ∃(a:p<g.ins.l.length) (h:p<C.length),eF R C[p] g.ins.l[p]∧eF R' (d_ g.ins.l[p] (W p) (W (p+1))) gd.ins.l[p]:=by
 have b:p<B.length:=by rw[<-d.1];exact i
 have a:p<g.ins.l.length:=by rw[<-f.len];exact b
 have h:p<C.length:=by rw[<-c.1];exact a
 refine⟨a,h,c.2 p _ _,?_⟩;rw[<-f.row p _ _];exact d.2 p b _
theorem Se (c:j3 g S k W B)(e:cT R C g.ins.l)(b:cT R' B gd.ins.l)(f:∀x∈gd.entries.l,x∈g.entries.l){p:Nat}{t:Int}(h:t∈aY gd p):t∈aY g p:=
 OE (b.1.trans c.len) (fun p i j=>by
  obtain⟨_,_,_,a⟩:=BA c e b _;exact⟨by rw[a.nT,zab],by rw[a.quiet,XC]⟩) f h
theorem Sf (V:gA g)(F:fD g S)(i:j3 g S k W B)(J:cT R C g.ins.l)(D:cT R' B gd.ins.l)(T:∀x∈gd.entries.l,x∈g.entries.l):px (pq g S W) (bM C (a_ gd.ins.l.length) gd):=by
 have K:gd.ins.l.length=g.ins.l.length:=D.1.trans i.len;have u:∀(p:Nat),p≤g.ins.l.length->∀t∈aY gd p,∀l r,pq g S W t.toNat l r->pq g S W p l r:=fun p c t j l r ⟨d,s,N,Y⟩=>by
  have o:=Se i J D T j;refine⟨d,s,F.fix p _ c (.inr ⟨t,o,N⟩),?_⟩;rw[<-i.iU p t o];exact Y
 refine⟨fun p t0 fr h=>?_,fun p q a h l r M=>?_,fun p c f q a _ t j l r=>?_,fun t j l r=>?_⟩
 . obtain ⟨c, e⟩ := DI h
   rw[mq c] at e;unfold nR at e
   grind
 . obtain ⟨c, e⟩ := DI h
   obtain⟨d,s,O,H⟩:=BA i J D c;rw[mq c] at e;unfold nR at e;rw[if_neg aa,zbt,ej s,ej c] at e;simp only[mS.op.injEq] at e;obtain⟨X,v,G⟩:=e;have w:cS g.ins.l[p]:=by
    have:=H.uu.1 (of_decide_eq_true X.symm);exact RW.1 this
   rw[<-O.gx] at v;rw[H.gx,YG] at G;obtain⟨P,Q,y,U⟩:=M;have m:((r.toNat:Nat):Int)=r:=aa;have I:=V.ok.gx _ (za9 d);have A:r≠q->pq g S W p l r:=fun z=>by
    have b:((r.toNat:Nat):Int)≠aH g.ins.l[p]:=by rw[m,<-v];exact z
    refine⟨P,Q,F.fix p _ aa (.inl ⟨d,.inl ⟨w,y,b⟩⟩),?_⟩;rw[<-i.Ic p d d w r.toNat aa y b];exact U
   by_cases E:0≤aH g.ins.l[p]
   . rw [if_pos E] at G
     have Z:=i.dst p d d E;unfold eO at Z;rw[if_pos aa]
     by_cases hr:r=q
     . grind
     . have b : ((r.toNat : Nat) : Int) ≠ aH g.ins.l[p] := by rw [m, <-v]; exact hr
       rw[if_neg (fun hl=>i.sep p d d w E r.toNat aa y b aa)]
       grind
   grind
 . rw [kT] at c
   rw[DH c] at j
   grind
 . rw [kT]
   refine u _ aa t ?_ l r;unfold aY;rw[dif_neg aa];exact j
theorem Sg (o:gA g)(s:fD g S)(j:j3 g S k W B)(q:cT R C g.ins.l)(t:cT R' B gd.ins.l){p:Nat}(v:p<gd.ins.l.length)(w:p<C.length) :
 (aQ gd.ins.l[p])=(aQ C[p]).map (fun r=>(W p).getD r.toNat 0)∧∀r∈aQ C[p],pq g S W p ((W p).getD r.toNat 0) r∧eO (W p) k r:=by
 obtain⟨i,x,h,u⟩:=BA j q t v;have f:∀r∈aQ g.ins.l[p],0≤r∧r<g.ah∧hJ S p r.toNat:=fun r d=>by
  have:=o.ok.jm _ (za9 i) r d;exact⟨this.1,this.2,s.fix p _ aa (.inl ⟨i,.inr bj⟩)⟩
 have m:∀r∈aQ g.ins.l[p],eO (W p) k r:=fun r d=>by
  obtain⟨a,b,c⟩:=f r d;have:=j.jM p aa r.toNat aa c
  grind
 refine⟨?_,fun r d=>?_⟩
 . rw[u.jm,zav fun r d=>⟨(f r d).1,(m r d).1⟩,h.jm]
 . rw [<-h.jm] at d
   obtain⟨a,b,c⟩:=f r d;exact⟨⟨a,b,c,rfl⟩,m r d⟩
end
end Go.Ago
end
section
namespace Go.Ago
open Go.Proofs List Nat Tryz
theorem zac {i:Ins}{tl:List Int}:bP (cB i tl)=(bP i).map fun t=>tl.getD t.toNat 0:=by
 unfold cB
 by_cases b:i.op=14∨i.op=15
 . rw [if_pos b]
   unfold bP
   grind
 . rw [if_neg b]
   by_cases a:i.op=28∨i.op=29
   . rw [if_pos a]
     unfold bP
     grind
   . rw [if_neg a]
     unfold bP
     grind
theorem vl {i:Ins}{tl:List Int}:(cB i tl).op=i.op∧(cB i tl).d=i.d∧(cB i tl).a=i.a∧(cB i tl).b=i.b∧(cB i tl).l=i.l∧(cB i tl).p=i.p:=by
 unfold cB
 grind
theorem K7 {a b:Ins}(e:b.op=a.op)(c:b.d=a.d):aH b=aH a:=by unfold aH;grind
theorem zaw {a b:Ins}(d:b.op=a.op)(e:b.a=a.a)(f:b.b=a.b)(c:b.l=a.l):aQ b=aQ a:=by unfold aQ;grind
theorem RX {a b:Ins}(c:b.op=a.op):cS b↔cS a:=aa
def pC (k N l r:Int):Prop:=0≤r∧r<N∧l=k+r
def e7 (k N:Int)(i:Ins)(s:Nat)(l r:Int):Prop:=
 if s≤bX i then pC k N l r∨(0<s∧0≤i.a∧l=0∧r=i.a)∨(s=bX i∧cD i∧l=1∧r=i.b)
 else (pC k N l r∧r≠i.d)∨(l=2∧r=i.d)
def eN (k N:Int)(G:List Ins)(p:Nat)(l r:Int):Prop:=
 ∃n s,p=cO k G n+s∧((∃h:n<G.length,s<(b_ k G[n]).length∧e7 k N G[n] s l r)∨(n=G.length∧s=0∧pC k N l r))
theorem e7.zero {k N:Int}{i:Ins}{l r:Int}:e7 k N i 0 l r↔pC k N l r:=by
 refine⟨fun h=>h.elim id fun h=>h.elim (ag) fun h=>?_,.inl⟩
 unfold bX at *
 grind
theorem e7.slot {k N:Int}{i:Ins}{s:Nat}{l r:Int}(h:s≤bX i)(a:pC k N l r):e7 k N i s l r:=by unfold e7;grind
theorem eN.at_ {k N:Int}{G:List Ins}{n s:Nat}(c:n<G.length)(b:s<(b_ k G[n]).length){l r:Int}:eN k N G (cO k G n+s) l r↔e7 k N G[n] s l r:=by
 refine⟨fun ⟨m,t,e,h⟩=>?_,fun h=>⟨n,s,rfl,.inl ⟨c,b,h⟩⟩⟩
 rcases h with⟨d,a,h⟩|⟨d,a,h⟩
 . obtain ⟨rfl, rfl⟩ := wI _ aa b (fun _ => a) (fun e => aa) e
   exact h
 obtain⟨rfl,rfl⟩:=wI c aa b (fun h=>aa) (fun _=>a) e
 omega
theorem eN.start {k N:Int}{G:List Ins}{n:Nat}(b:n≤G.length){l r:Int}:eN k N G (cO k G n) l r↔pC k N l r:=by
 by_cases h:n<G.length
 . have := @eN.at_ k N G n 0 h AB.1 l r
   rw[Nat.add_zero] at *;rw[this,e7.zero]
 . have b : n = G.length := aa
   subst b;refine⟨fun ⟨m,t,e,a⟩=>?_,fun a=>⟨G.length,0,rfl,.inr ⟨rfl,rfl,a⟩⟩⟩
   rcases a with⟨f,d,_⟩|⟨_,_,a⟩
   . have := wI _ (zbm _) d (ag) (fun _ => rfl) aa
     omega
   omega
theorem eN.next {k N:Int}{G:List Ins}{n s:Nat}(a:n<G.length)(b:s+1=(b_ k G[n]).length){l r:Int}:eN k N G (cO k G n+s+1) l r↔pC k N l r:=by
 rw[show cO k G n+s+1=cO k G _ from by rw[vr a];omega]
 exact eN.start a
structure tL (N:Int)(i:Ins):Prop where
 a:i.a = -1∨(0≤i.a∧i.a<N)
 b:i.b = -1∨(0≤i.b∧i.b<N)
 d:i.d = -1∨(0≤i.d∧i.d<N)
 l:∀r∈i.l.l,0≤r∧r<N
 hd:0≤i.d->hasB i.op 68=true
 mv:i.op=3->0≤i.a∧0≤i.d∧i.b = -1
section
variable {k N:Int} {G C:List Ins} {gd:Gr} {tl:List Int} {R R':Int->Prop}
structure mH (k N:Int)(G:List Ins)(tl:List Int)(R':Int->Prop)(gd:Gr):Prop where
 hk:4≤k
 ins:∀i∈G,tL N i
 rows:cT R' ((dC k G).map fun i=>cB i tl) gd.ins.l
 nT:∀i∈G,∀t∈bP i,∃n,n≤G.length∧tl.getD t.toNat 0=(cO k G n:Int)
 fw:∀x∈gd.entries.l,∃n,n≤G.length∧x=(cO k G n:Int)
theorem mH.at_ (h:mH k N G tl R' gd){p:Nat}(c:p<gd.ins.l.length):∃n s,∃b:n<G.length,s<(b_ k G[n]).length∧p=cO k G n+s∧∃y,(b_ k G[n])[s]? = some y∧eF R' (cB y tl) gd.ins.l[p]:=by
 have g:gd.ins.l.length=(dC k G).length:=by rw[h.rows.1,zba]
 obtain⟨n,s,b,d,e⟩:=A9 (k:=k) (l:=G) (p:=p) (zbm _) (by rw[zu];omega)
 have i:=h.rows.2 p bj c;have f:=Fa (k:=k) b d
 grind
theorem YH {i:Ins}(h:tL N i):aH (xF k i)=if 0≤i.d then (if i.op=3 then k+i.d else 2) else -1:=by
 have e:(xF k i).op=i.op:=rfl;have g:(xF k i).d=if dF i then 2 else aR k i.d:=rfl
 unfold aH;rw[e,g]
 by_cases a:0≤i.d
 . rw [if_pos (h.hd a), if_pos a]
   by_cases f:i.op=3
   . rw[if_pos f,if_neg (fun c=>c.1 f),jZ a]
   omega
 . rw [if_neg a]
   have b:i.d = -1:=by rcases h.d with e|e<;>omega
   rw[if_neg (fun c:dF i=>a c.2),mC aa,b]
   simp
theorem K6 {i:Ins}(h:tL N i):aH i=i.d:=by
 unfold aH
 by_cases a:0≤i.d
 . rw[if_pos (h.hd a)]
 have:i.d = -1:=by rcases h.d with e|e<;>omega
 omega
theorem mH.step (h:mH k N G tl R' gd)(A:cT R C G){p:Nat}{f:mS}(t:(bM C (cI k 0 G) gd).st[p]? = some f) :
 ∃n s,∃c:n<G.length,s<(b_ k G[n]).length∧p=cO k G n+s ∧
  ((s = 0 ∧ s < bX G[n] ∧ 0 ≤ G[n].a ∧ f = .mv 0 (k + G[n].a)) ∨ (s + 1 = bX G[n] ∧ cD G[n] ∧ f = .mv 1 (k + G[n].b)) ∨
   (s=bX G[n]∧f = .op (decide (cS G[n])) G[n].d (if 0≤G[n].d then (if G[n].op=3 then k+G[n].d else 2) else -1))∨(s=bX G[n]+1∧(b_ k G[n]).length=s+1∧dF G[n]∧f = .mv (k+G[n].d) 2)):=by
 obtain⟨v,e⟩:=DI t;obtain⟨n,s,c,w,E,y,L,o⟩:=h.at_ v;refine⟨n,s,c,w,E,?_⟩;have z:=CP (k:=k) c w;rw[<-E] at z;have l:(cI k 0 G).getD p 0=if s=bX G[n] then (n:Int) else -1:=by rw[zbD,z];rfl
 rw[l,ej v] at e;have K:∀d a:Int,y=cq d a->s≠bX G[n]->f = .mv d a:=fun d a m q=>by
  rw[if_neg q] at e;unfold nR at e;rw[if_pos aa] at e;obtain⟨P,Q,M,I,_⟩:=o.key;obtain⟨_,r,x,_⟩:=@vl y tl;rw[e,M,I,r,x,m];rfl
 rcases ud L with⟨g,j,B,J⟩|⟨g,j,B⟩|⟨g,j⟩|⟨g,j,B,J⟩
 . grind
 . grind
 . refine .inr (.inr (.inl ⟨g, ?_⟩))
   have D:=h.ins _ (za9 c);have i:n<C.length:=by rw[<-A.1];exact c
   have u:=A.2 n i c;rw[if_pos g] at e;unfold nR at e;rw[if_neg aa,zbt,ej i] at e;obtain⟨F,r,x,S,T,O⟩:=@vl y tl;rw[e,o.gx,K7 F r,j,YH D,<-u.gx,K6 D]
   congr 1
   refine decide_eq_decide.2 ?_;rw[o.uu,RX F,j];rfl
 grind
theorem mH.aside (h:mH k N G tl R' gd){n s:Nat}(A:n<G.length)(u:s=bX G[n]){p:Nat}(j:p<gd.ins.l.length)(z:p=cO k G n+s){t:Int}(g:t∈aY gd p):∃m,m≤G.length∧t=(cO k G m:Int):=by
 obtain⟨r,D,d,c,f,y,v,w⟩:=h.at_ j;obtain⟨rfl,rfl⟩:=wI (k:=k) d aa c (fun _=>by rw[u,pH];omega) (fun e=>aa) (f.symm.trans z)
 have i:y=xF k G[r]:=by
  rcases ud v with⟨q,o,_⟩|⟨q,_⟩|⟨_,o⟩|⟨q,_⟩
  . omega
  . omega
  . exact o
  . omega
 unfold aY at g;rw[dif_pos j] at g;have a:t∈bP gd.ins.l[p]∨t∈gd.entries.l:=by
  split at g
  . grind
  . grind
 rcases a with a|a
 . rw [w.nT, zac, i] at a
   obtain⟨B,x,rfl⟩:=zbG.1 a;exact h.nT _ (za9 A) B x
 . exact h.fw t a
theorem O7 (h:mH k N G tl R' gd)(F:cT R C G):px (eN k N G) (bM C (cI k 0 G) gd):=by
 have hl:gd.ins.l.length=(dC k G).length:=by rw[h.rows.1,zba]
 have hk:=h.hk;refine⟨fun p t0 fr j l r c=>?_,fun p r0 a j l r c=>?_,fun p hp f r0 a j t D l r c=>?_,fun t D l r c=>?_⟩
 . obtain ⟨n, s, i, o, w, z⟩ := h.step F j
   have u:=h.ins _ (za9 i);subst w;have H:=@pH k G[n];rcases z with⟨v,B,A,g⟩|⟨v,B,g⟩|⟨_,g⟩|⟨v,B,A,g⟩
   . cases g
     subst v;have J:G[n].a<N:=by rcases u.a with e|e<;>omega
     rw[eN.at_ i o,eN.at_ i o,e7.zero,e7.zero];rw[show cO k G n+0+1=cO k G n+1 from rfl,eN.at_ i aa] at c
     unfold e7 at c;rw[if_pos aa] at c;rcases c with c|⟨_,_,q,y⟩|⟨q,y,_,_⟩
     . rw [if_neg (by have := c.2.2; have := c.1; omega)]
       exact c
     . rw [if_pos q, y]
       exact⟨A,J,rfl⟩
     . unfold bX at q
       grind
   . cases g
     have I:G[n].b<N:=by rcases u.b with e|e<;>have:=B.2.1<;>omega
     rw[eN.at_ i o,eN.at_ i o];rw[show cO k G n+s+1=cO k G n+(s+1) from rfl,eN.at_ i aa] at c
     unfold e7 at c;rw[if_pos aa] at c;rcases c with c|⟨q,y,h7,h8⟩|⟨q,y,h7,h8⟩
     . rw [if_neg (by have := c.2.2; have := c.1; omega)]
       exact e7.slot aa c
     . rw [if_neg aa]
       have:s≠0:=fun e=>by
        subst e;unfold bX at v
        grind
       unfold e7
       grind
     . rw [if_pos h7, h8]
       exact e7.slot aa ⟨B.2.1,I,rfl⟩
   . cases g
   . cases g
     rw[eN.at_ i o,eN.at_ i o];rw[eN.next i B.symm] at c
     by_cases e:l=k+G[n].d
     . rw [if_pos e]
       unfold e7;rw[if_neg aa];exact .inr ⟨rfl,by have:=c.2.2;omega⟩
     . rw [if_neg e]
       unfold e7;rw[if_neg aa];exact .inl ⟨c,fun x=>e (by rw[c.2.2,x])⟩
 . obtain ⟨n, s, i, o, w, z⟩ := h.step F j
   have u:=h.ins _ (za9 i);subst w;have H:=@pH k G[n];rcases z with⟨_,_,_,g⟩|⟨_,_,g⟩|⟨v,g⟩|⟨_,_,_,g⟩
   . cases g
   . cases g
   . simp only [mS.op.injEq] at g
     obtain⟨_,e1,x⟩:=g;rw[eN.at_ i o]
     by_cases hd:0≤G[n].d
     . rw [if_pos hd] at x
       by_cases A:G[n].op=3
       . rw [if_pos A] at x
         rw[eN.next i bj] at c;rw[if_pos aa];split
         . rename_i e;have:=c.2.2;omega
         . rename_i e
           exact⟨fun e3=>e (by have:=c.2.2;omega),e7.slot aa c⟩
       . rw [if_neg A] at x
         rw[show cO k G n+s+1=cO k G n+(s+1) from rfl,eN.at_ i bj] at c
         unfold e7 at c;rw[if_neg aa] at c;rw[if_pos aa];rcases c with⟨q,y⟩|⟨q,y⟩
         . rw [if_neg (by have := q.2.2; have := q.1; omega)]
           exact⟨aa,e7.slot aa q⟩
         grind
     . rw [if_neg hd] at x
       rw[eN.next i bj] at c;rw[if_neg aa];exact e7.slot aa c
   grind
 . obtain ⟨n, s, i, o, w, z⟩ := h.step F j
   rw[kT] at hp;rw[DH hp] at D;rcases z with⟨_,_,_,g⟩|⟨_,_,g⟩|⟨v,_⟩|⟨_,_,_,g⟩
   . cases g
   . cases g
   . obtain ⟨m, E, rfl⟩ := h.aside i v hp w D
     rw[zbt,eN.start E] at c;rw[w,eN.at_ i o];exact e7.slot aa c
   grind
 . obtain ⟨m, E, rfl⟩ := h.fw t D
   rw[zbt,eN.start E] at c;rw[kT,hl,<-zu,eN.start (zbm _)];exact c
end
end Go.Ago
end
section
namespace Go.Ago
open Go.Proofs List Nat Tryz
def Reads (P:Int->Int->Prop)(us ws:List Int):Prop:=us.length=ws.length∧∀(m:Nat) (l r:Int),us[m]? = some l->ws[m]? = some r->P l r
theorem Reads.nil {P:Int->Int->Prop}:Reads P [] []:=⟨rfl,fun m l r h=>ag⟩
theorem Reads.one {P:Int->Int->Prop}{l r:Int}(h:P l r):Reads P [l] [r]:=⟨rfl,fun m b c d a=>by
 grind⟩
theorem Reads.app {P:Int->Int->Prop}{a b c d:List Int}(e:Reads P a b)(i:Reads P c d):Reads P (a++c) (b++d):=⟨by rw[zbk,zbk,e.1,i.1],fun m l r g f=>by
 by_cases h:m<a.length
 . rw [zbM h] at *
   rw[zbM (by rw[<-e.1];exact h)] at *
   exact e.2 m l r g f
 rw[zbv aa] at g;rw[zbv (by have:=e.1;omega),<-e.1] at f
 exact i.2 _ l r g f⟩
theorem Reads.map {P:Int->Int->Prop}{f:Int->Int}{ws:List Int}(h:∀r∈ws,P (f r) r):Reads P (ws.map f) ws:=⟨zba _,fun m l r b a=>by
 grind⟩
theorem Reads.mono {P Q:Int->Int->Prop}(h:∀l r,P l r->Q l r){a b:List Int}(c:Reads P a b):Reads Q a b:=⟨c.1,fun m l r e d=>h _ _ (c.2 m l r e d)⟩
theorem Reads.at_ {P:Int->Int->Prop}{a b:List Int}(h:Reads P a b){r:Int}{m:Nat}(c:b[m]? = some r):∃l,a[m]? = some l∧P l r:=by
 have e:=(zbn.1 c).1;have d:m<a.length:=by rw[h.1];exact e
 exact⟨a[m],zbf _,h.2 m _ r (ag) c⟩
theorem Reads.if {P:Int->Int->Prop}{c c':Prop}[Decidable c][Decidable c']{l r:Int}(h:c↔c')(b:c'->P l r):Reads P (if c then [l] else []) (if c' then [r] else []):=by
 by_cases a:c'
 . rw[if_pos (h.2 a),if_pos a];exact .one (b a)
 rw[if_neg (fun x=>a (h.1 x)),if_neg a];exact .nil
section
variable {k N:Int} {i:Ins}
theorem zaX (u:4≤k)(h:tL N i):Reads (e7 k N i (bX i)) (aQ (xF k i)) (aQ i):=by
 have n:(xF k i).op=i.op:=rfl;have m:(xF k i).a=if 0≤i.a then 0 else aR k i.a:=rfl
 have o:(xF k i).b=if i.op≠3∧0≤i.b then (if i.b=i.a then 0 else 1) else aR k i.b:=rfl
 have q:(xF k i).l.l=i.l.l.map (aR k):=rfl;have t:0≤i.a->e7 k N i (bX i) 0 i.a:=fun f=>by
  unfold e7;rw[if_pos (zbm _)];refine .inr (.inl ⟨?_,f,rfl,rfl⟩);unfold bX
  grind
 unfold aQ;rw[n,m,o,q];refine Reads.app (Reads.app ?_ ?_) ?_
 . refine Reads.if ?_ ?_
   . refine and_congr_right fun _ => ?_
     rcases h.a with e|e
     . rw[if_neg aa,mC aa]
     omega
   . rintro ⟨_, p⟩
     have f:0≤i.a:=by rcases h.a with e|e<;>omega
     grind
 . refine Reads.if ?_ ?_
   . refine and_congr_right fun _ => ?_
     rcases h.b with e|e
     . rw[if_neg aa,mC aa]
     . have d : i.op ≠ 3 := fun j => by have := (h.mv j).2.2; omega
       omega
   . rintro ⟨_, p⟩
     have f:0≤i.b:=by rcases h.b with e|e<;>omega
     have d:i.op≠3:=fun j=>by have:=(h.mv j).2.2;omega
     rw[if_pos ⟨d,f⟩]
     by_cases g:i.b=i.a
     . grind
     . rw [if_neg g]
       unfold e7
       grind
 . split
   . refine Reads.map fun r s => ?_
     have:=h.l r s;rw[jZ this.1];exact e7.slot (zbm _) ⟨this.1,this.2,rfl⟩
   . exact .nil
end
section
variable {k N:Int} {G C:List Ins} {gd:Gr} {tl:List Int} {R R':Int->Prop}
theorem O9 (h:mH k N G tl R' gd)(z:cT R C G){p n:Nat}(B:p<gd.ins.l.length)(t:(cI k 0 G).getD p 0=(n:Int))(x:n<C.length):Reads (eN k N G p) (aQ gd.ins.l[p]) (aQ C[n]):=by
 obtain⟨m,s,f,j,q,y,v,w⟩:=h.at_ B;have c:=CP (k:=k) f j;rw[<-q] at c;have d:(cI k 0 G).getD p 0=if s=bX G[m] then (m:Int) else -1:=by rw[zbD,c];rfl
 rw[d] at t;have b:s=bX G[m]:=by
  by_cases e:s=bX G[m]
  . exact e
  . omega
 rw[if_pos b] at t;have:m=n:=aa;subst this;have g:y=xF k G[m]:=by
  rcases ud v with⟨o,u,_⟩|⟨o,_⟩|⟨_,u⟩|⟨o,_⟩
  . omega
  . omega
  . exact u
  . omega
 obtain⟨D,_,E,F,H,_⟩:=@vl y tl;rw[w.jm,zaw D E F H,g,<-(z.2 m x f).jm];have:=zaX h.hk (h.ins _ (za9 f));rw[<-b] at this;exact this.mono fun l r A=>by rw[q];exact(eN.at_ f j).2 A
theorem Sh {g:Gr}{S:List (List aA)}{W:Nat->List Int}{B:List Ins}(h:gA g)(c:fD g S)(d:j3 g S k W B)(e:cT R C g.ins.l)(f:cT R' B gd.ins.l){p:Nat}(n:p<gd.ins.l.length)(j:p<C.length) :
 Reads (pq g S W p) (aQ gd.ins.l[p]) (aQ C[p]):=by
 obtain⟨i,m⟩:=Sg h c d e f _ _;rw[i];exact Reads.map fun r b=>(m r b).1
end
end Go.Ago
end
section
namespace Go.Ago
open Go.Proofs List Nat Tryz
def gN (T:List (List Int))(p:Nat)(n:Int):Int:=if p<T.length then (T.getD p []).getD n.toNat 0 else n
def gI (T:List (List Int))(i:Ins):Ins:=if i.op=16∧0≤i.p then { i with n:=gN T i.p.toNat i.n } else i
theorem rV {T:List (List Int)}{i:Ins}(h:i.op≠16):gI T i=i:=by unfold gI;grind
theorem xf {T:List (List Int)}{i:Ins}:∃x,gI T i={ i with n:=x }:=by
 unfold gI;split
 . simp
 grind
theorem jL {T:List (List Int)}{i:Ins}:(gI T i).op=i.op∧(gI T i).p=i.p∧(gI T i).d=i.d∧(gI T i).a=i.a∧(gI T i).b=i.b∧(gI T i).m=i.m∧(gI T i).l=i.l:=by
 obtain⟨x,e⟩:=@xf T i
 grind
theorem BR {T:List (List Int)}{i:Ins}(h:i.op≠16):(gI T i).n=i.n:=by rw[rV h]
theorem rU {T:List (List Int)}{i:Ins}(h:i.op=16)(h0:0≤i.p):(gI T i).n=gN T i.p.toNat i.n:=by unfold gI;grind
theorem BT (T:List (List Int))(i:Ins):eF (fun p=>0≤p) i (gI T i):=by
 unfold gI;split
 . rename_i h;exact .inr ⟨h.1,h.2,_,rfl⟩
 exact .inl rfl
theorem BS (T:List (List Int))(l:List Ins):cT (fun p=>0≤p) l (l.map (gI T)):=⟨zba _,fun m h a=>by rw[zcl];exact BT T _⟩
theorem SN:gI []=id:=funext fun i=>by
 unfold gI;split<;>rfl
theorem JB {T:List (List Int)}{tl:List Int}{i:Ins}:bT T.length tl (gI T i)=gI (T++[tl]) i:=by
 by_cases h:i.op=16
 . by_cases a : 0 ≤ i.p
   . obtain ⟨d, c, _⟩ := @jL T i
     by_cases b:i.p=(T.length:Int)
     . unfold bT
       rw[if_pos ⟨d.trans h,c.trans b⟩];unfold gI;rw[if_pos ⟨h,a⟩,if_pos ⟨h,a⟩];have e:i.p.toNat=T.length:=aa;unfold gN
       grind
     . rw [xZ fun x => b (c.symm.trans x.2)]
       unfold gI;rw[if_pos ⟨h,a⟩,if_pos ⟨h,a⟩]
       congr 1
       unfold gN
       grind
   . have e : ∀ T : List (List Int), gI T i = i := fun T => by unfold gI; grind
     rw[e,e,xZ fun x=>a aa]
 . rw[rV h,rV h,xZ fun x=>h x.1]
theorem SM {T:List (List Int)}{m:Nat}{i:Ins}(hi:i.op=16->i.p=(T.length:Int)->0≤i.n∧i.n≤(m:Int)):gI (T++[a_ (m+1)]) i=gI T i:=by
 rw[<-JB];unfold bT;split
 . rename_i h
   obtain⟨b,d,_⟩:=@jL T i;have c:(gI T i).n=i.n:=by
    rw[rU (b.symm.trans h.1) aa];unfold gN;rw[if_neg aa]
   have:(a_ (m+1)).getD (gI T i).n.toNat 0=(gI T i).n:=by rw[c,mq aa];omega
   rw[this]
 . rfl
section
variable {T:List (List Int)}
theorem zat {k:Int}{i:Ins}:xF k (gI T i)=gI T (xF k i):=by
 obtain⟨x,e⟩:=@xf T i;have a:gI T (xF k i)={ xF k i with n:=(gI T i).n }:=by
  unfold gI
  by_cases h:i.op=16∧0≤i.p
  . rw [if_pos h, if_pos (show (xF k i).op = 16 ∧ 0 ≤ (xF k i).p from h)]
    rfl
  rw[if_neg h,if_neg (show ¬((xF k i).op=16∧0≤(xF k i).p) from h)]
  rfl
 rw[a,e];rfl
theorem V6 {d a:Int}:gI T (cq d a)=cq d a:=rV (show 3≠16 by decide)
theorem O6 {k:Int}{i:Ins}:b_ k (gI T i)=(b_ k i).map (gI T):=by
 obtain⟨a,f,d,b,c,g,e⟩:=@jL T i;unfold b_;rw[zb9,zcq,<-zat]
 congr 1
 . unfold fK cD
   rw[a,b,c,zb9]
   congr 1
   . split
     . rfl
     . rfl
   . split
     . rfl
     . rfl
 . congr 1
   unfold fJ dF;rw[a,d];split
   . rfl
   . rfl
theorem Dn {k:Int}:∀{l:List Ins},dC k (l.map (gI T))=(dC k l).map (gI T)
 | []=>rfl
 | i :: l => by
   show b_ k _++dC k _=(b_ k i++dC k l).map _;rw[O6,Dn,zb9]
theorem WD {k:Int}{n:Nat}{i:Ins}:dW k n (gI T i)=dW k n i:=by
 obtain⟨b,c,d,e,f,g,a⟩:=@jL T i;unfold dW bX cD dF
 grind
theorem Jf {k:Int}:∀{l:List Ins} {n:Nat},cI k n (l.map (gI T))=cI k n l
 | [],_=>rfl
 | i :: l, n => by
   show dW k n _++cI k _ _=dW k n i++cI k _ l;rw[WD,Jf]
theorem Nr {k:Int}{l:List Ins}{m:Nat}:eM k (l.map (gI T)) m=eM k l m:=by
 unfold eM cO;refine zbZ fun n _=>?_
 rw[<-List.map_take,Dn,zba]
theorem YN {i:Ins}{tl:List Int}:cB (gI T i) tl=gI T (cB i tl):=by
 by_cases h:i.op=16
 . have e := fun y a => (yV y tl).2.2 a
   rw[e i h,e _ ((@jL T i).1.trans h)]
 rw[rV h,rV (by rw[(yV i _).1];exact h)]
theorem Sc {i:Ins}{w w':List Int}:d_ (gI T i) w w'=gI T (d_ i w w'):=by
 obtain⟨x,e⟩:=@xf T i;have a:gI T (d_ i w w')={ d_ i w w' with n:=(gI T i).n }:=by
  unfold gI
  by_cases h:i.op=16∧0≤i.p
  . rw [if_pos h, if_pos (show (d_ i w w').op = 16 ∧ 0 ≤ (d_ i w w').p from h)]
    rfl
  . rw [if_neg h, if_neg (show ¬ ((d_ i w w').op = 16 ∧ 0 ≤ (d_ i w w').p) from h)]
    rfl
 rw[a,e];rfl
end
structure pg (M:Int)(tl:List Int)(x y:Ins):Prop extends SimI x y where
 g:x.op=16->y.n=x.n
 rd:y.d<M
 ra:y.a<M
 rb:y.b<M
 rl:∀r∈y.l.l,0≤r∧r<M
 tn:x.op=14∨x.op=15->y.n=tl.getD x.n.toNat 0
 tm:x.op=28∨x.op=29->y.m=tl.getD x.m.toNat 0
structure RowsX (M:Int)(C Y:List Ins)(o tl:List Int):Prop where
 ol:o.length=Y.length
 Nu:tl.length=C.length+1
 Nv:∀t∈tl,0≤t∧t≤(Y.length:Int)
 row:∀(p:Nat) (h:p<Y.length),(o.getD p 0 = -1∧∃d a,(0≤d∧d<M)∧(0≤a∧a<M)∧Y[p]=cq d a)∨∃(n:Nat) (hn:n<C.length),o.getD p 0=(n:Int)∧pg M tl C[n] Y[p]
theorem pg.gs {M:Int}{tl:List Int}{x y:Ins}(h:pg M tl x y)(T:List (List Int)):SimI x (gI T y):=by
 obtain⟨z,e⟩:=@xf T y;obtain⟨q,r,o,j,i,p,k⟩:=@jL T y;refine⟨?_,fun f c g=>?_,fun f c=>?_,?_,?_,?_,?_⟩
 . rw [e]
   have:=h.eq
   grind
 . rw[BR (by rw[h.op];exact g)];exact h.n f c g
 . rw[p];exact h.m f c
 . rw[o];exact h.d
 . rw[j];exact h.a
 . rw[i];exact h.b
 . rw[k];exact h.l
theorem Ho {l:List Int}{n:Nat}(h:n<l.length):l.getD n 0∈l:=by grind
theorem X9 {c d:Cd}{T:List (List Int)}(hx:cJ c)(hp:d.p=c.p)(hl:d.b.l.length=c.b.l.length)
 (hb:∀(j:Nat) (h:j<c.b.l.length) (h':j<d.b.l.length),(0≤d.b.l[j].ah∧d.b.l[j].ah≤4000)∧∃Y o tl,d.b.l[j].ins.l=Y.map (gI T)∧RowsX d.b.l[j].ah c.b.l[j].ins.l Y o tl)
 (hg:∀(p:Nat) (h:p<c.b.l.length) (h':p<d.b.l.length) (n:Int),0≤n->n≤(c.b.l[p].ins.l.length:Int)->0≤gN T p n∧gN T p n≤(d.b.l[p].ins.l.length:Int))(hs:bK d.b.l≤20000):cJ d:=by
 have D:=hx.ok;obtain⟨ho,hc,hi⟩:=hx;have f:OutOK d:=⟨by rw[hp];exact ho.ck,by rw[hl,hp];exact ho.len,fun j h'=>(hb j aa h').1⟩
 refine⟨⟨f,by rw[hp];exact ho.pb,zbu sH hs⟩,f,fun q z i hm=>?_⟩
 have w:q<c.b.l.length:=by rw[<-hl];exact z
 obtain⟨_,Y,o,tl,e,hr⟩:=hb q w z;rw[e] at hm;obtain⟨y,hy,rfl⟩:=zbG.1 hm;obtain⟨p,hpl,rfl⟩:=zbo.1 hy;have hreg:fg (fy d f q z)=d.b.l[q].ah:=by simp[fg,fy]
 have u:∀r,0≤r->r<d.b.l[q].ah->aL (fy d f q z) r:=fun r h1 h2=>by unfold aL;omega
 rcases hr.row p hpl with⟨_,dd,a,h1,h2,h3⟩|⟨n,hn,_,x⟩
 . rw [h3, V6]
   exact⟨V4,V7 (u _ h1.1 h1.2) (u _ h2.1 h2.2)⟩
 . have v := za9 hn
   obtain⟨x1,x2⟩:=hi q w _ v;have B:=x.gs T;obtain⟨k1,k2,k3,k4,k5,k6,k7⟩:=@jL T Y[p];have ma:=x.op;obtain⟨_,hv⟩:=jw D w;have ht:=(hv _ v).t;have hlen:(d.b.l[q].ins.l).length=Y.length:=by rw[e,zba]
   have hpl2:∀n:Int,0≤n->n≤(c.b.l[q].ins.l.length:Int)->cE (fy d f q z) (fy d f q z).proc (tl.getD n.toNat 0):=fun n A h1=>by
    have:=hr.Nv _ (Ho (l:=tl) (n:=n.toNat) (by rw[hr.Nu];omega))
    have hq2:(fy d f q z).proc.toNat=q:=by simp[fy]
    refine⟨by assumption,this.1,?_⟩
    have e2:((fy d f q z).c.b.l[(fy d f q z).proc.toNat]'bD).ins.l.length=Y.length:=by
     rw[<-hlen];simp[fy]
    omega
   refine⟨B.bare x1,Ag.right (k:=fy c hc q w) ⟨B,hp,rfl,fun A=>?_,fun A=>?_,fun A=>?_,fun r C=>?_,fun s=>?_,fun s=>?_,fun s=>?_⟩ x2⟩
   . rw[k3] at A ⊢;exact u _ A x.rd
   . rw[k4] at A ⊢;exact u _ A x.ra
   . rw[k5] at A ⊢;exact u _ A x.rb
   . rw[k7] at C;exact u _ (x.rl r C).1 (x.rl r C).2
   . rw [BR aa, x.tn s]
     have:=ht c.b.l[q].ins.l[n].n (by unfold bP;grind)
     grind
   . obtain ⟨g1, g2, g3, g4⟩ := lB D w v s
     have hpp:Y[p].p=c.b.l[q].ins.l[n].p:=x.p;rw[rU aa aa,hpp,x.g s];have g5:c.b.l[q].ins.l[n].p.toNat<d.b.l.length:=by rw[hl];exact g1
     have:=hg _ g1 g5 _ g3 g4;exact⟨g5,this⟩
   . rw [k6, x.tm s]
     have:=ht c.b.l[q].ins.l[n].m (by unfold bP;rw[if_neg aa,if_pos s];simp)
     grind
end Go.Ago
end
namespace Go.Ago
open Go.Proofs List Nat Tryz
attribute [local irreducible] bA bw aV bp bG wr aZ bF comp DC DP DW DV
attribute [local irreducible] du ct aL cE dE dm dR dL bU dw dG bK bn bB eh fY lV db aY aQ aH dU
structure mK (g:Gr)(C:List (List aA))(k:Int)(m:Nat)(pl:List Int):Prop where
 pn:pl.length=g.ah.toNat
 jM:∀r:Nat,r<m->eO pl k (r:Int)
 le:m≤g.ah.toNat
 sep:∀r o:Nat,r<m->o<r->bB (aK C r) o=true->pl.getD r 0≠pl.getD o 0
theorem mK.start {g:Gr}{C:List (List aA)}{k:Int}:mK g C k 0 (replicate g.ah.toNat 0):=⟨ag,fun r h=>absurd h (ag),zbq _,fun r o h=>absurd h (ag)⟩
def nZ (L pl:List Int)(m j:Nat)(a:List Bool):Prop:=∀r∈L.take j,r<(m:Int)->a.getD (pl.getD r.toNat 0).toNat false=true
theorem nZ.skip {L pl:List Int}{m j:Nat}{c:List Bool}(h:nZ L pl m j c)(d:j<L.length)(e:¬L[j]<(m:Int)):nZ L pl m (j+1) c:=fun r a b=>by
 rw[zbi d] at *;rcases zbL.1 a with a|a
 . exact h r a b
 grind
theorem nZ.put {L pl:List Int}{m j:Nat}{c:List Bool}(h:nZ L pl m j c)(d:j<L.length){x:Nat}(g:x=(pl.getD L[j].toNat 0).toNat)(f:x<c.length):nZ L pl m (j+1) (c.set x true):=fun r a b=>by
 rw[zbD,zc8];rw[zbi d] at a
 by_cases e:x=(pl.getD r.toNat 0).toNat
 . rw[if_pos e,if_pos f];rfl
 . rw [if_neg e, <-zbD]
   rcases zbL.1 a with a|a
   . exact h r a b
   grind
theorem mK.next {g:Gr}{C:List (List aA)}{k:Int}{m:Nat}{pl L:List Int}{f:List Bool}{j:Nat}(h:mK g C k m pl)(d:m<g.ah.toNat){i:Int}(hi:0≤i∧i<k)(p:m<C.length)(q:bn C[m] g.ah.toNat=L)(v:kF f i)(w:nZ L pl m j f)(x:L.length≤j):mK g C k (m+1) (pl.set m i):=by
 have b:m<pl.length:=by rw[h.pn];exact d
 refine⟨by rw[zbP];exact h.pn,fun r t=>?_,d,fun r o t u l=>?_⟩
 . have := eO.put (pl := pl) (k := k) (r := (m : Int)) (i := i) (s := (r : Int)) (by simpa using b) hi fun a => h.jM r (by simp at a; omega)
   simpa using this
 . rw [uB b, uB b, if_neg (by omega : ¬ o = m)]
   by_cases e:r=m
   . subst e
     rw[if_pos rfl];intro y;have z:aK C r=C[r]:=by simp[aK,getD,p]
     have c:=w (o:Int) (by rw[zbj x,<-q];exact nw.2 ⟨o,rfl,aa,by rw[<-z];exact l⟩) aa
     rw[zbt,<-y,Ha v hi.1] at c;cases c
   . rw [if_neg e]
     exact h.sep r o aa u l
theorem Cy {a:List Int}{r:Int}(h:r = -1∨0≤r):fY a r=db a r:=by
 unfold fY db;omega
theorem XR {g:Gr}(k:gA g){i:Ins}(hi:i∈g.ins.l)(j:i.d = -1∨hasB i.op 68=true){c:List Int}:nJ i c=d_ i c c:=by
 have h:=k.ins i hi;have s:fY c i.a=db c i.a:=Cy (h.a.imp id (·.1));have p:fY c i.b=db c i.b:=Cy (h.b.imp id (·.1));have q:i.l.l.map (fY c)=i.l.l.map (db c):=zbZ fun r n=>Cy (.inr (h.l r n).1)
 have m:fY c i.d=if 0≤aH i then c.getD i.d.toNat 0 else i.d:=by
  unfold fY
  by_cases e:i.d = -1
  . unfold aH
    grind
  . rw [if_neg e]
    have o:=j.resolve_left e;have f:0≤i.d:=(h.d.resolve_left e).1;rw[if_pos (by unfold aH;rw[if_pos o];exact f)]
 unfold nJ d_ gG
 grind
theorem F6 {g:Gr}(n:gA g)(m:∀i∈g.ins.l,i.d = -1∨hasB i.op 68=true){S C:List (List aA)}{k:Int}{pl:List Int}(f:nY g S C g.ins.l.length)(h:mK g C k g.ah.toNat pl):j3 g S k (fun _=>pl) (g.ins.l.map fun i=>nJ i pl):=by
 have q:=n.ok;refine⟨⟨zba _,zbm _,fun p a v=>by rw[zcl];exact XR n (za9 a) (m _ (za9 a)),fun p _ r o _=>h.jM r aa,fun p a _ c=>?_,fun p a _ s c r o t j=>?_,fun _ _ _ _ _ _ _ _=>rfl⟩,fun _ _ _=>rfl⟩
 . have := h.jM (aH g.ins.l[p]).toNat (by have := q.gx _ (za9 a); omega)
   rw[zda c] at this;exact this
 . have x := q.gx _ (za9 a)
   obtain⟨w,u⟩:=f p r a a c s o t j
   (try dsimp only)
   by_cases e:r<(aH g.ins.l[p]).toNat
   . exact(h.sep _ r aa e w).symm
   . exact h.sep r _ aa aa u
theorem Sx {a:List Bool}{i:Int}(h:kF a i):i = -1∨(0≤i∧i<a.length):=h.elim (fun h => .inl h.1) fun h => .inr ⟨h.1,h.2.1⟩
def EE (g:Gr)(k:Int)(v:AV)(b:Bool):Prop:=
 (b=false∧v = .agg [i64 0,.ai])∨(b=true∧∃(a:Bd) (S:List (List aA)) (W:Nat->List Int),v=a.av∧a.ah=k∧fD g S∧j3 g S k W a.ins.l)
theorem QN (g:Gr)(E:gA g)(hbd:∀i∈g.ins.l,i.d = -1∨hasB i.op 68=true)(k:Int)(hk:0≤k∧k≤4000):af 43 [g.av,i64 k] (fun ae=>∃x b,ae = .ret (.ao [x,.bool b])∧∃v,mN x v∧EE g k v b):=by
 refine zw func43 ?_;have q:=E.ok;have hil:=g.ins.h;have hfew:=q.eT;have D:=q.ah;have hge:=mh q;have hnw:=qp q;refine zg ?_
 repeat' ((first|refine Rq.mk (su (l':=g.ah) rfl rfl aa ab rfl) ?_|(refine DC.pure rfl (Qs g q) ?_;rintro _ ⟨C,S,rfl,hC,hS,G⟩))<;>refine zg ?_)
 have hCl:=hC.len;refine DW.aO aC aD [1,2,4,5,6,21,22] [5] 200 (fun x:{x:Nat×List Int // mK g C k x.1 x.2}=>[(23,i64 x.1.1)]) (fun x=>[(5,.arr 1 (x.1.2.map ic))]) [] (fun x=>g.ah.toNat+1 - x.1.1) (⟨(0,replicate g.ah.toNat 0),mK.start⟩) ?_
 conv=>whnf
 refine⟨?_,fun x=>?_⟩
 . conv => whnf
   (exact Eu)
 rcases x with⟨⟨m,pl⟩,hx⟩
 have w:=hx.pn;have hmb:=hx.le;have p:=hx.jM;dsimp only at w hmb p;refine zk ?_
 repeat' ((first|refine Rq.mk (su (l':=k) rfl rfl aa ab rfl) ?_|refine az.mk _ (bO (l:=C) (i:=m) aa) ?_|(refine DC.pure rfl (mf (C[m]'aa) (Ks q hC aa).1 g.ah ⟨D.1,(Ks q hC aa).2⟩) ?_;rintro _ rfl)|(refine zp ?_ ?_<;>intro h))<;>refine zk ?_)
 . have o : m < C.length := aa
   have a:∀(j:Nat) (h:j<(bn (C[m]'o) g.ah.toNat).length),0≤(bn (C[m]'o) g.ah.toNat)[j]∧(bn (C[m]'o) g.ah.toNat)[j]<g.ah:=fun j h=>nr (za9 h)
   have hLl:(bn (C[m]'o) g.ah.toNat).length≤1000:=by have:=@sf (C[m]'o) g.ah.toNat;omega
   have B:∀(r:Int) (h0:0≤r) (h:r.toNat<pl.length),r<(m:Int)->0≤pl[r.toNat]∧pl[r.toNat]<k:=fun r h0 h hr=>by
    have:=p r.toNat aa;unfold eO at this;rw[show((r.toNat:Nat):Int)=r by omega,p_ h] at this
    exact this
   generalize hLd:bn (C[m]'o) g.ah.toNat=L at a hLl
   refine DW.aO aC aD [1,2,4,5,6,7,8,9,21,22,23,24,25,26,27,28,29,30,31,32,33,34] [218] 200 (fun y:{y:Nat×List Bool // y.2.length=k.toNat∧y.1≤L.length∧nZ L pl m y.1 y.2}=>[(35,i64 y.1.1)]) (fun y=>[(218,.arr 1 (y.1.2.map bc))]) [] (fun y=>L.length+1 - y.1.1) (⟨(0,replicate k.toNat false),ag,zbq _,(fun r hr=>by cases hr)⟩) ?_
   conv=>whnf
   refine⟨?_,fun y=>?_⟩
   . conv => whnf
     (exact Eu)
   rcases y with⟨⟨j,H⟩,s,hy2,u⟩
   dsimp only at s hy2 u;refine zk ?_
   repeat' ((first|refine az.mk _ (bO (l:=L) (i:=j) aa) ?_|refine Rq.mk (r9 (a j aa) aa) ?_|(refine bR (eV (l:=pl) (by have:=a j aa;omega)) ?_)|(refine Rq.mk (r9 (B (L[j]'aa) (a j aa).1 (by have:=a j aa;omega) h) aa) ?_)|(refine bR (eV (l:=H) (by have:=B (L[j]'aa) (a j aa).1 (by have:=a j aa;omega) h;omega)) ?_)|(refine DC.flat (aJ (fj (f:=bc) (l:=H) (n:=19) (fun _=>rfl) rfl rfl s.symm) rfl) (xp ⟨H,aa⟩) ?_;rintro _ ⟨i,rfl,hi⟩;have hi2:=Sx hi;refine⟨rfl,?_⟩)|(refine bR (xW (l:=pl) (r:=((m:Nat):Int).toNat) eE) ?_)|(refine bR (eV (l:=pl) (n:=((m:Nat):Int)) eE) ?_)|(refine zp ?_ ?_<;>intro h))<;>refine zk ?_)
   . (refine⟨⟨(j+1,H.set (pl[(L[j]'aa).toNat]'(by have:=a j aa;omega)).toNat true),by rw[zbP];exact s,bH,u.put aa (by rw[p_]) (by have:=B (L[j]'aa) (a j aa).1 (by have:=a j aa;omega) h;omega)⟩,vx,rfl,bH⟩)
   . (refine⟨⟨(j+1,H),s,bH,u.skip aa aa⟩,vx,rfl,bH⟩)
   . exact⟨_,_,rfl,_,.r,.inl ⟨rfl,rfl⟩⟩
   . have hi3 : 0 ≤ i ∧ i < k := by have h9 := hi2; dsimp only at h9; omega
     (refine⟨⟨(m+1,pl.set m i),hx.next aa hi3 o hLd hi u aa⟩,vx,rfl,bH⟩)
 . refine DW.ot 5 (.arr 1 (pl.map ic)) [(4, _), (5, _), (6, .ak 1 (pl.map ic)), (12, _), (64, _), (65, _), (66, _)] [(1, _), (214, _)] rfl ⟨⟨_, rfl, .inl rfl⟩, ⟨⟨_, rfl, .inl rfl⟩, ⟨⟨_, rfl, .inr (fj (f := ic) (l := pl) (n := 19) (fun _ => rfl) rfl rfl w.symm)⟩, ⟨⟨_, rfl, .inl rfl⟩, ⟨⟨_, rfl, .inl rfl⟩, ⟨⟨_, rfl, .inl rfl⟩, ⟨⟨_, rfl, .inl rfl⟩, trivial⟩⟩⟩⟩⟩⟩⟩ ⟨⟨ab, _, rfl, .inl rfl⟩, ⟨⟨ab, _, rfl, .inl rfl⟩, trivial⟩⟩ ?_
   have F:∀t∈pl,0≤t:=fun t ht=>by
    obtain⟨r,hr,rfl⟩:=zbo.1 ht;have:=p r aa;unfold eO at this;rw[zbt,p_ hr] at this;exact this.1
   have A:(pl.length:Int)=g.ah:=aa;have hx9 : mK g C k g.ah.toNat pl := by have e9 : m = g.ah.toNat := aa;rw[<-e9];exact hx
   refine DW.aO aC aD [4,5,6,12,64,65] [214] 4000 (fun x:{x:Nat×List Ins // x.2=(g.ins.l.take x.1).map (fun i=>nJ i pl)∧x.1≤g.ins.l.length}=>[(66,i64 x.1.1)]) (fun x=>(214,.arr 2 [[i64 k,fu 2000 29 (x.1.2.map Ins.cells)]])::fq 2000 29 (x.1.2.map Ins.cells)) [(2000,.cell 214 1)] (fun x=>g.ins.l.length+1 - x.1.1) (⟨(0,[]),rfl,zbq _⟩) ?_
   conv=>whnf
   refine⟨?_,fun x=>?_⟩
   . conv => whnf
     (exact Eu)
   rcases x with⟨⟨n,_|⟨z,acc⟩⟩,hm,hnb⟩
   . dsimp only at hm hnb
     have i_len:=zbc length hm;simp only[zbp,zbd,zba,zbA] at i_len;refine zk ?_
     repeat' ((first|refine zf ?_|refine az.mk _ (bO (l:=g.ins.l) (i:=n) aa) ?_|(refine zp ?_ ?_<;>intro h)|(refine DC.pure rfl (Ke (g.ins.l[n]'aa) ⟨pl,aa⟩ (q.fH _ (za9 _)) (J9 E A F (za9 _))) ?_;rintro _ rfl))<;>refine zk ?_)
     . (refine⟨⟨(n+1,[nJ (g.ins.l[n]'aa) pl]),NP,bH⟩,vx,rfl,bH⟩)
     . have e : g.ins.l = [] := zbh aa
       have hF:=F6 E hbd G hx9;rw[e] at hF;exact⟨_,_,rfl,(Bd.mk k ⟨[],ab⟩).av,.inr ⟨_,_,rfl,rfl,.r,.n,trivial⟩,.inr ⟨rfl,_,S,_,rfl,rfl,hS,hF⟩⟩
   . dsimp only at hm hnb
     have i_len:=zbc length hm;simp only[zbp,zbd,zba,zbA] at i_len;refine zk ?_
     repeat' ((first|refine zf ?_|(refine Rq.mk (eP 304 2000 ag rfl rfl lQ ab) ?_)|refine az.mk _ (bO (l:=g.ins.l) (i:=n) aa) ?_|(refine zp ?_ ?_<;>intro h)|(refine DC.pure rfl (Ke (g.ins.l[n]'aa) ⟨pl,aa⟩ (q.fH _ (za9 _)) (J9 E A F (za9 _))) ?_;rintro _ rfl))<;>refine zk ?_)
     . (refine⟨⟨(n+1,z::(acc++[nJ (g.ins.l[n]'aa) pl])),NP,bH⟩,vx,rfl,bH⟩)
     . generalize hg2 : snap _ 20 _ = rr
       obtain rfl:=hg2.symm.trans (o3 (n:=19) (lM (n:=18) (aJ rfl (aJ (gW (f:=Ins.cells) (n:=17) (fun _=>rfl) rfl) rfl))) rfl)
       conv=>whnf
       have hF:=F6 E hbd G hx9;rw[zbj aa] at hm;rw[<-hm] at hF;exact⟨_,_,rfl,(Bd.mk k ⟨z::acc,by rw[zbd,i_len];omega⟩).av,.r,.inr ⟨rfl,_,S,_,rfl,rfl,hS,hF⟩⟩
theorem QM (g:Gr)(e:gA g)(a:∀i∈g.ins.l,i.d = -1∨hasB i.op 68=true)(k:Int)(f:0≤k∧k≤4000):af 43 [g.av,i64 k] (fun h=>∃v b,h = .ret (.ao [v,.bool b])∧EE g k v b):=by
 refine(QN g e a k f).oG ?_
 rintro _ ⟨x,b,rfl,v,j,c⟩
 exact⟨_,.ao [v,.bool b],rfl,.inr ⟨_,_,rfl,rfl,j,.r,trivial⟩,v,b,rfl,c⟩
end Go.Ago
