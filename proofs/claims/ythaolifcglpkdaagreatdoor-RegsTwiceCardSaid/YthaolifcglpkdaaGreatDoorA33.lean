/-
  Part A33: lemmas, each with its own conditions.
-/
import Derived.Test.YthaolifcglpkdaaGreatDoorA32
set_option maxRecDepth 100000
set_option maxHeartbeats 0
set_option linter.all false
namespace Go.Ago
open Go.Proofs List Nat Tryz
def eB (R:Int->Prop)(a b:Ins):Prop:=b=a∨(a.op=16∧R a.p∧∃x,b={ a with n:=x })
def cT (R:Int->Prop)(xs ys:List Ins):Prop:=ys.length=xs.length∧∀(m:Nat) (h:m<xs.length) (a:m<ys.length),eB R xs[m] ys[m]
theorem eB.mono {R R':Int->Prop}(h:∀p,R p->R' p){a b:Ins}(d:eB R a b):eB R' a b:=d.imp id fun ⟨e,f,c⟩=>⟨e,h _ f,c⟩
theorem eB.key {R:Int->Prop}{a b:Ins}(h:eB R a b):b.op=a.op∧b.p=a.p∧b.d=a.d∧b.a=a.a∧b.b=a.b∧b.m=a.m∧b.l=a.l∧(b.n=a.n∨a.op=16∧R a.p):=by
 rcases h with rfl|⟨e,c,x,rfl⟩
 . simp
 grind
theorem eB.trans {R:Int->Prop}{a b c:Ins}(g:eB R a b)(d:eB R b c):eB R a c:=by
 rcases g with rfl|⟨e,f,x,rfl⟩
 . exact d
 rcases d with rfl|⟨i,h,y,rfl⟩
 . exact .inr ⟨e,f,x,rfl⟩
 exact .inr ⟨e,f,y,rfl⟩
theorem eB.nS {R:Int->Prop}{a b:Ins}(h:eB R a b):bT b=bT a:=by
 rcases h with rfl|⟨c,_,x,rfl⟩
 . rfl
 unfold bT;grind
theorem eB.jj {R:Int->Prop}{a b:Ins}(h:eB R a b):aT b=aT a:=by
 rcases h with rfl|⟨c,_,x,rfl⟩<;>rfl
theorem eB.ga {R:Int->Prop}{a b:Ins}(h:eB R a b):aH b=aH a:=by
 rcases h with rfl|⟨c,_,x,rfl⟩<;>rfl
theorem eB.rR {R:Int->Prop}{a b:Ins}(h:eB R a b):cQ b↔cQ a:=by
 rcases h with rfl|⟨c,_,x,rfl⟩
 . rfl
 rfl
theorem eB.v {R:Int->Prop}{a b:Ins}(h:eB R a b){n:Int}{m:Nat}(c:InsV n m a):InsV n m b:=by
 obtain⟨_,_,f,g,i,_,e,_⟩:=h.key;exact⟨by rw[g];exact c.a,by rw[i];exact c.b,by rw[f];exact c.d,by rw[e];exact c.l,by rw[h.nS];exact c.t⟩
theorem cT.refl {R:Int->Prop}(l:List Ins):cT R l l:=⟨rfl,fun _ _ _ => .inl rfl⟩
theorem cT.mono {R R':Int->Prop}(h:∀p,R p->R' p){a b:List Ins}(c:cT R a b):cT R' a b:=⟨c.1,fun m e d=>(c.2 m _ _).mono h⟩
theorem cT.trans {R:Int->Prop}{a b c:List Ins}(d:cT R a b)(e:cT R b c):cT R a c:=
 ⟨e.1.trans d.1,fun m f g=>(d.2 m _ _).trans (e.2 m (by rw[d.1];exact f) _)⟩
theorem cT.mem {R:Int->Prop}{a b:List Ins}(h:cT R a b){i:Ins}(hi:i∈b):∃d∈a,eB R d i:=by
 obtain⟨m,e,rfl⟩:=mem_iff_getElem.1 hi;have c:m<a.length:=by rw[<-h.1];exact e
 exact⟨a[m],getElem_mem _,h.2 m _ _⟩
structure NG (c:Cd)(q:Nat)(out:Cd):Prop where
 len:out.b.l.length=c.b.l.length
 xN:∀(j:Nat) (h:j<c.b.l.length) (h':j<out.b.l.length),j≠q->out.b.l[j].aj=c.b.l[j].aj∧cT (fun p=>p=(q:Int)) c.b.l[j].ins.l out.b.l[j].ins.l
 own:∀(h:q<c.b.l.length) (h':q<out.b.l.length),∀i∈out.b.l[q].ins.l,i.op=16->i.p≠(q:Int)->∃i0∈c.b.l[q].ins.l,i0.op=16∧i0.p=i.p∧i0.n=i.n
 eU:∀(h:q<c.b.l.length) (h':q<out.b.l.length),out.b.l[q].ins.l.length≤4 * c.b.l[q].ins.l.length
def zX (c:Cd)(k:Int)(j:Nat):Prop:=∃g S n,dQ c (j:Int) g∧g_ g∧fy g S∧vD g S n∧n≤k
structure jA (c:Cd)(k:Int)(q:Nat)(d:Cd)(of:List (List Int)):Prop where
 len:d.b.l.length=c.b.l.length
 le:q≤c.b.l.length
 todo:∀(j:Nat) (h:j<c.b.l.length) (h':j<d.b.l.length),q≤j->d.b.l[j].aj=c.b.l[j].aj∧cT (fun p=>p<(q:Int)) c.b.l[j].ins.l d.b.l[j].ins.l
 goto:∀b∈d.b.l,∀i∈b.ins.l,i.op=16->(q:Int)≤i.p->∃b0∈c.b.l,∃i0∈b0.ins.l,i0.op=16∧i0.p=i.p∧i0.n=i.n
 done:∀(j:Nat) (h:j<c.b.l.length) (h':j<d.b.l.length),j<q->zX c k j->d.b.l[j].aj=k∧d.b.l[j].ins.l.length=c.b.l[j].ins.l.length
 gT:of.length=q
 I4:∀(j:Nat) (h:j<of.length),zX c k j->¬(-1:Int)∈of[j]
 I3:∀l∈of,l.length<281474976710656
 eU:∀(j:Nat) (h:j<c.b.l.length) (h':j<d.b.l.length),d.b.l[j].ins.l.length≤4 * c.b.l[j].ins.l.length
theorem jA.start (c:Cd)(k:Int):jA c k 0 c []:=
 ⟨rfl,zero_le _,fun j h a _=>⟨rfl,cT.refl _⟩,fun b e i f g _=>⟨b,e,i,f,g,rfl,rfl⟩,fun j h a d=>absurd d (ag),rfl,fun j h=>absurd h (ag),(fun l h=>by cases h),fun j h a=>aa⟩
theorem jA.gotoIn {c d:Cd}{k:Int}{q:Nat}{o:List (List Int)}(h:jA c k q d o)(n:rh c)(s:q<c.b.l.length):tH d (q:Int) c.b.l[q].ins.l.length:=by
 intro b g i m f u;obtain⟨v,e,t,a,p,w,x⟩:=h.goto b g i m f aa;obtain⟨j,y,rfl⟩:=mem_iff_getElem.1 e;obtain⟨z,A,B,r⟩:=kD n _ a p
 grind
theorem jA.graph {c d:Cd}{k:Int}{q:Nat}{y:List (List Int)}(h:jA c k q d y)(w:rh c)(r:fz c 250 60)(n:q<c.b.l.length){g:Gr}(E:dQ d (q:Int) g):gz g:=by
 obtain⟨D,z,C,e,A⟩:=E;have s:q<d.b.l.length:=by simpa using D
 have p:g.ins=d.b.l[q].ins:=by simpa using z
 have G:g.aj=d.b.l[q].aj:=by simpa using C
 obtain⟨H,o⟩:=h.todo q n s (Nat.le_refl _);obtain⟨K,B⟩:=kE w n;have a:=getElem_mem n;have J:=r.aj _ a;have I:=r.h_ _ a;have u:=mf a;have F:=r.sum;have f:g.ins.l.length=c.b.l[q].ins.l.length:=by rw[p];exact o.1
 refine Hf aa aa (fun i j=>?_) (fun i j=>?_) A ?_
 . rw [p] at j
   obtain⟨x,m,t⟩:=o.mem j;rw[G,H,f];exact t.v (B x m)
 . rw [p] at j
   obtain⟨x,m,t⟩:=o.mem j;rw[t.key.2.2.2.2.2.2.1]
   grind
 . rw[f];exact h.gotoIn w n
theorem jA.str {c d:Cd}{k:Int}{q:Nat}{F:List (List Int)}(h:jA c k q d F)(G:cB c=0)(Z:q<c.b.l.length){g j:Gr}(hg:dQ d (q:Int) g)(y:dQ c (q:Int) j)(s:g_ j) :
 g_ g∧g.aj=j.aj∧cT (fun p=>p<(q:Int)) j.ins.l g.ins.l∧g.entries.l=[]:=by
 obtain⟨H,O,P,e,M⟩:=hg;obtain⟨V,B,v,e0,u⟩:=y;have z:q<d.b.l.length:=by simpa using H
 have I:g.ins=d.b.l[q].ins:=by simpa using O
 have a2:g.aj=d.b.l[q].aj:=by simpa using P
 have K:j.ins=c.b.l[q].ins:=by simpa using B
 have b2:j.aj=c.b.l[q].aj:=by simpa using v
 obtain⟨t1,N⟩:=h.todo q Z z (Nat.le_refl _);have t:cT (fun p=>p<(q:Int)) j.ins.l g.ins.l:=by rw[I,K];exact N
 have f:g.entries.l=[]:=by
  rcases M with⟨_,_,r⟩|⟨_,_,_,r⟩|⟨_,_,_,_,a,_⟩
  . exact r
  . exact r
  . refine eq_nil_iff_forall_not_mem.2 fun x Q => ?_
    obtain⟨b,R,i,S,T,h4,rfl⟩:=oG.1 ((a x).1 Q);obtain⟨J,w,L,A,X,c2,Y⟩:=h.goto b R i S T aa;rcases u with⟨r,_,_⟩|⟨_,r,_,_⟩|⟨_,_,_,_,U,_⟩
    . omega
    . omega
    . have := (U i.n).2 (oG.2 ⟨J, w, L, A, X, aa, Y.symm⟩)
      rw[s.1] at this
      grind
 refine⟨⟨f,fun m E hm2=>?_⟩,aa,t,f⟩
 have o:m<j.ins.l.length:=by rw[<-t.1];exact E
 have C:=t.2 m o E;have:=s.2 m o o;rw[C.nS,C.rR,t.1];omega
theorem Vb {a b:List Ins}(h:a.map mg=b.map mg):a.length=b.length:=by
 have:=congrArg length h
 grind
theorem Vc {a b:List Ins}(h:a.map mg=b.map mg){i:Ins}(hi:i∈a):∃c∈b,c.op=i.op∧c.p=i.p∧c.n=i.n:=by
 have:mg i∈b.map mg:=by grind
 grind
theorem ta {c:Cd}{q:Nat}{a:Bd}{j:Nat}(h:j<c.b.l.length)(d:j<(kS c q a).b.l.length):(kS c q a).b.l[j]=if q=j then a else c.b.l[j]:=by
 show(c.b.l.set q _)[j]'aY=_
 grind
theorem D6 {c:Cd}{q:Nat}{a:Bd}:(kS c q a).b.l.length=c.b.l.length:=by show(c.b.l.set q _).length=_;simp
theorem jA.fits {c d:Cd}{k:Int}{q:Nat}{A:List (List Int)}(h:jA c k q d A)(D:q<c.b.l.length){g:Gr}(L:dQ d (q:Int) g){o:Bd}(P:o.aj=k)(E:o.ins.l.map mg=g.ins.l.map mg) :
 jA c k (q+1) (kS d q o) (A++[bC o.ins.l.length]):=by
 obtain⟨B,J,Q,e,V⟩:=L;have s:q<d.b.l.length:=by simpa using B
 have C:g.ins=d.b.l[q].ins:=by simpa using J
 have I:o.ins.l.length=d.b.l[q].ins.l.length:=by rw[Vb E,C]
 have t:=h.todo q D s (Nat.le_refl _);have Y:d.b.l[q].ins.l.length=c.b.l[q].ins.l.length:=t.2.1;refine⟨D6.trans h.len,D,fun j m n x=>?_,fun b y i v H x=>?_,fun j m n r z=>?_,by rw[length_append,h.gT];rfl,fun j m z=>?_,fun l u=>?_,fun j m n=>?_⟩
 . have a : j < d.b.l.length := by rw [h.len]; exact m
   rw[ta a n,if_neg aa];obtain⟨K,G⟩:=h.todo j m a aa;exact⟨K,G.mono fun p B=>aa⟩
 . obtain ⟨j, m, rfl⟩ := mem_iff_getElem.1 y
   have a:j<d.b.l.length:=by rw[<-D6];exact m
   rw[ta a m] at v
   by_cases f:q=j
   . rw [if_pos f] at v
     obtain⟨M,w,R,S,T⟩:=Vc E v;rw[C] at w;obtain⟨U,N,X,O,Z,f2,f3⟩:=h.goto _ (getElem_mem s) M w aa aa
     grind
   . rw [if_neg f] at v
     exact h.goto _ (getElem_mem a) i v H aa
 . have a : j < d.b.l.length := by rw [h.len]; exact m
   rw[ta a n]
   by_cases f:q=j
   . grind
   . rw[if_neg f];exact h.done j m a aa z
 . rw [getElem_append]
   split
   . rename_i r;exact h.I4 j r z
   . rw [getElem_singleton]
     intro F;have:=uN.1 F;omega
 . rcases mem_append.1 u with u | u
   . exact h.I3 l u
   . rw[mem_singleton.1 u,jU];exact o.ins.h
 . have a : j < d.b.l.length := by rw [h.len]; exact m
   rw[ta a n]
   by_cases f:q=j
   . grind
   . rw[if_neg f];exact h.eU j m a
theorem jA.K_ {c d:Cd}{k:Int}{q:Nat}{D:List (List Int)}(h:jA c k q d D)(F:q<c.b.l.length)(Y:¬zX c k q){n:Cd}(m:NG d q n)(x:List Int)(H:x.length<281474976710656):jA c k (q+1) n (D++[x]):=by
 have w:q<d.b.l.length:=by rw[h.len];exact F
 have T:q<n.b.l.length:=by rw[m.len];exact w
 refine⟨m.len.trans h.len,F,fun j e g y=>?_,fun b z i E K y=>?_,fun j e g s B=>?_,by rw[length_append,h.gT];rfl,fun j e B=>?_,fun l t=>?_,fun j e g=>?_⟩
 . have a : j < d.b.l.length := by rw [h.len]; exact e
   obtain⟨L,Q⟩:=h.todo j e a aa;obtain⟨u,o⟩:=m.xN j a g aa;exact⟨u.trans L,(Q.mono fun p I=>aa).trans (o.mono fun p I=>aa)⟩
 . obtain ⟨j, e, rfl⟩ := mem_iff_getElem.1 z
   have a:j<d.b.l.length:=by rw[<-m.len];exact e
   by_cases f:j=q
   . subst f
     obtain⟨v,r,M,e2,e3⟩:=m.own a e i E K aa;obtain⟨P,A,R,C,J,U,N⟩:=h.goto _ (getElem_mem a) v r M aa
     grind
   . obtain ⟨_, o⟩ := m.xN j a e f
     obtain⟨v,r,O⟩:=o.mem E;obtain⟨k1,Z,_,_,_,_,_,k8⟩:=O.key;obtain⟨P,A,R,C,J,U,N⟩:=h.goto _ (getElem_mem a) v r aa aa
     grind
 . have a : j < d.b.l.length := by rw [h.len]; exact e
   by_cases f:j=q
   . grind
   . obtain ⟨u, o⟩ := m.xN j a g f
     obtain⟨S,V⟩:=h.done j e a aa B;exact⟨u.trans S,o.1.trans V⟩
 . rw [getElem_append]
   split
   . rename_i s;exact h.I4 j s B
   . rename_i X
     have:j=q:=by rw[length_append,h.gT] at e;have:=h.gT;simp only[length_singleton] at e;omega
     grind
 . rcases mem_append.1 t with t | t
   . exact h.I3 l t
   grind
 . have a : j < d.b.l.length := by rw [h.len]; exact e
   by_cases f:j=q
   . subst f
     have h1:=m.eU a g;obtain⟨_,G⟩:=h.todo j e a (Nat.le_refl _);have:=G.1;omega
   . obtain ⟨u, o⟩ := m.xN j a g f
     rw[o.1];exact h.eU j e a
end Go.Ago
namespace Go.Ago
open Go.Proofs List Nat Tryz
attribute [local irreducible] bN bM aZ bK b_ wr bp bL comp DC DP DW DV
attribute [local irreducible] dJ ct aL cH dP dI ec dX cB dM dR bV bn bB eA
theorem Tq (n:Int):af 124 [i64 n] (fun b=>b = .ret (.bool false)):=by
 refine zw func124 ?_;refine zg ?_
 repeat' ((refine zp ?_ ?_<;>first|exact⟨⟩|intro h)<;>refine zg ?_)
 all_goals exact⟨⟩
theorem Ts (n:Int):af 175 [i64 n] (fun b=>b = .ret (.bool false)):=by
 refine zw func175 ?_;refine zg ?_
 repeat' ((refine zp ?_ ?_<;>first|exact⟨⟩|intro h)<;>refine zg ?_)
 all_goals exact⟨⟩
theorem UD (a b:Int):af 123 [i64 a,i64 b] (ca fun t=>t=true↔a<b):=by
 have k1:=Ts a;exact zw func123 W
theorem H7 (a b:Int):af 123 [i64 a,i64 b] (kQ (a<b)):=DP.dec (UD a b)
theorem On (n r:Int)(h:r<100000∧0≤n∧n<100000):af 125 [i64 r,.bq [i64 n]] (fun b=>b = .ret (i64 (if r<0 then r else n+r))):=by
 refine zw func125 ?_;refine zg ?_
 repeat' ((refine zp ?_ ?_<;>intro h)<;>refine zg ?_)
 all_goals first|(rw[if_pos aa])|(rw[if_neg aa,aF aa aa])
def cA (i:Ins)(a:List Int):Ins:=if i.op=14∨i.op=15 then { i with n:=a.getD i.n.toNat 0 } else if i.op=28∨i.op=29 then { i with m:=a.getD i.m.toNat 0 } else i
def ru (a:List Int)(t:Int):Prop:=0≤t∧∃h:t.toNat<a.length,0≤a[t.toNat]
theorem Yi (i:Ins)(a:List Int)(r:a.length<281474976710656)(k:∀t∈bT i,ru a t):af 92 [i.av,aU a] (fun d=>d = .ret (.ao [(cA i a).av,i64 0])):=by
 have p:wr .i64 (0+1)=1:=by rw[aF aa aa];rfl
 by_cases b:i.op=14∨i.op=15
 . have g : af 73 [i.av] (fun d => d = .ret (aU [i.n])) := (sX i).mono fun _ h => by rw [h, bT, if_pos b]
   obtain⟨o,j,q⟩:=k i.n (by rw[bT,if_pos b];simp)
   have e:cA i a={ i with n:=a[i.n.toNat] }:=by rw[cA,if_pos b];simp[getD,j]
   rw[e];refine zw func92 ?_;refine zk ?_
   repeat' ((first|refine ay.mk _ (cU (l:=a) j) ?_|(refine zp ?_ ?_<;>first|exact⟨⟩|intro h)|(refine DC.pure rfl (g) ?_;rintro _ rfl)|refine DW.rounds aC aD 3 ?_|refine zo ?_)<;>refine zk ?_)
   all_goals exact⟨⟩
 . by_cases f : i.op = 28 ∨ i.op = 29
   . have g : af 73 [i.av] (fun d => d = .ret (aU [i.m])) := (sX i).mono fun _ h => by rw [h, bT, if_neg b, if_pos f]
     obtain⟨o,j,q⟩:=k i.m (by rw[bT,if_neg b,if_pos f];simp)
     have e:cA i a={ i with m:=a[i.m.toNat] }:=by rw[cA,if_neg b,if_pos f];simp[getD,j]
     rw[e];refine zw func92 ?_;refine zk ?_
     repeat' ((first|refine ay.mk _ (cU (l:=a) j) ?_|(refine zp ?_ ?_<;>first|exact⟨⟩|intro h)|(refine DC.pure rfl (g) ?_;rintro _ rfl)|refine DW.rounds aC aD 3 ?_|refine zo ?_)<;>refine zk ?_)
     all_goals exact⟨⟩
   . have g : af 73 [i.av] (fun d => d = .ret (aU [])) := (sX i).mono fun _ h => by rw [h, bT, if_neg b, if_neg f]
     have e:cA i a=i:=by rw[cA,if_neg b,if_neg f]
     rw[e];refine zw func92 ?_;refine zg ?_
     repeat' ((first|(refine zp ?_ ?_<;>first|exact⟨⟩|intro h)|(refine DC.pure rfl (g) ?_;rintro _ rfl)|refine DW.rounds aC aD 3 ?_)<;>refine zg ?_)
     all_goals exact⟨⟩
def cq (d a:Int):Ins:=⟨3,d,a,-1,⟨0,0,0,false,[],ab⟩,⟨0,0,0,false,[],ab⟩,⟨0,0,0,false,[],ab⟩,0,0,0,⟨0,[],ab⟩,⟨[],ab⟩,⟨[],ab⟩,⟨[],ab⟩,false,false⟩
theorem Vw (d a:Int):af 126 [i64 d,i64 a] (fun c=>c = .ret (.agg ((((cq d a).cells.set 24 .ah).set 25 .ah).set 26 .ah))):=by
 refine zw func126 ?_
 conv=>whnf
 rfl
theorem ss (d a:Int):af 126 [i64 d,i64 a] (fun b=>b = .ret (cq d a).av):=by
 refine(Vw d a).oI ?_
 rintro _ rfl
 exact⟨_,(cq d a).av,rfl,.inl (.inr ⟨_,_,rfl,rfl,⟨.r,.r,.r,.r,.r,.r,.r,.r,.r,.r,.r,.r,.r,.r,.r,.r,.r,.r,.r,.r,.r,.r,.r,.r,.n,.n,.n,.r,.r,trivial⟩⟩),rfl⟩
theorem wru {n:Int}(h:0≤n∧n<18446744073709551616):wr .u64 n=n:=by
 unfold wr;simp[IntKind.wrap,IntKind.bits,IntKind.signed];omega
theorem sq {lo hi:Nat}(h:lo+hi≤200000):wr .i64 ((wr .u64 (wr .i64 ((lo:Int)+(hi:Int)))).fdiv (2 ^ min (Int.toNat 1) IntKind.u64.bits))=(((lo+hi) / 2:Nat):Int):=by
 rw[aF (n:=lo+hi) aa aa,wru aa,Int.fdiv_eq_ediv_of_nonneg _ ab];have e:(2:Int) ^ min (Int.toNat 1) IntKind.u64.bits=2:=ab;rw[e,aF aa aa];omega
theorem HB {l:List (List AV)}{lo hi:Nat}(h:lo+hi≤200000)(a:(lo+hi) / 2<l.length):bp (wr .i64 ((wr .u64 (wr .i64 ((lo:Int)+(hi:Int)))).fdiv (2 ^ min (Int.toNat 1) IntKind.u64.bits))) l.length=true:=by
 rw[sq h,hZ];omega
theorem Ja {l:List Int}{lo hi:Nat}(h:lo+hi≤200000)(a:(lo+hi) / 2<l.length):(l.map ic)[(wr .i64 ((wr .u64 (wr .i64 ((lo:Int)+(hi:Int)))).fdiv (2 ^ min (Int.toNat 1) IntKind.u64.bits))).toNat]? = some (ic l[(lo+hi) / 2]):=by
 rw[sq h,Int.toNat_natCast];simp
end Go.Ago
section
namespace Go.Ago
open Go.Proofs List Nat Tryz
def bm {α:Type}(f:α->α)(rows:List α)(j:Nat):List α:=(rows.take j).map f++rows.drop j
section
variable {α:Type} {f:α->α} {rows:List α} {j:Nat}
theorem pY:bm f rows 0=rows:=rfl
theorem pZ (h:j=rows.length):bm f rows j=rows.map f:=by subst h;simp[bm]
theorem gL (f:α->α)(rows:List α){j:Nat}:(bm f rows j).length=rows.length:=by simp[bm];omega
theorem rP (h:j<rows.length)(a:j<(bm f rows j).length):(bm f rows j)[j]=rows[j]:=by
 have:(bm f rows j)[j]? = rows[j]?:=by
  unfold bm
  grind
 grind
theorem rQ (h:j<rows.length):(bm f rows j).set j (f rows[j])=bm f rows (j+1):=by
 unfold bm;rw[set_append_right _ _ aY,take_succ_eq_append_getElem h,map_append,append_assoc];rw[show j - ((rows.take j).map f).length=0 by grind,drop_eq_getElem_cons h]
 rfl
theorem Rm (h:j<rows.length)(b:f rows[j]=rows[j]):bm f rows (j+1)=bm f rows j:=by
 rw[<-rQ h,b];have:(bm f _ j)[j]'(by rw[gL];exact h)=rows[j]:=rP h _
 rw[<-this,set_getElem_self]
theorem Gw (h:j<rows.length)(x:α):(bm f rows j).set j x=(bm f rows (j+1)).set j x:=by
 rw[<-rQ h,set_set]
end
def bO (q:Nat)(tl:List Int)(i:Ins):Ins:=if i.op=16∧i.p=(q:Int) then { i with n:=tl.getD i.n.toNat 0 } else i
def Wy (q:Nat)(tl:List Int)(l:BL Ins):BL Ins:=⟨l.l.map (bO q tl),by rw[length_map];exact l.h⟩
def kf (q:Nat)(tl:List Int)(b:Bd):Bd:=⟨b.aj,Wy q tl b.ins⟩
theorem xQ {q:Nat}{tl:List Int}{i:Ins}(b:i.op=16)(a:i.p=(q:Int)){h:i.n.toNat<tl.length}:bO q tl i={ i with n:=tl[i.n.toNat] }:=by
 unfold bO;grind
theorem xP {q:Nat}{tl:List Int}{i:Ins}(h:¬(i.op=16∧i.p=(q:Int))):bO q tl i=i:=by unfold bO;grind
def zO (b:List Ins)(y:Ins):Prop:=y.op=3∨∃a∈b,y.op=a.op∧y.p=a.p∧y.n=a.n∧y.m=a.m
theorem yK (i:Ins)(tl:List Int):(cA i tl).op=i.op∧(cA i tl).p=i.p∧(i.op=16->(cA i tl)=i):=by
 unfold cA
 grind
theorem Wc {b rows:List Ins}{tl:List Int}(c:∀y∈rows,zO b y){i:Ins}(hi:i∈rows.map fun i=>cA i tl)(h:i.op=16):∃a∈b,a.op=16∧a.p=i.p∧a.n=i.n:=by
 obtain⟨y,d,rfl⟩:=mem_map.1 hi;obtain⟨f,g,j⟩:=yK y tl;rcases c y d with k|⟨a,l,m,o,e,_⟩
 . omega
 grind
def kk (c:Cd)(q:Nat)(tl:List Int)(a:Bd):Cd:=⟨c.p,⟨(c.b.l.map (kf q tl)).set q a,by rw[length_set,length_map];exact c.b.h⟩⟩
abbrev jb (r:Int)(k len:Nat):List AV:=[i64 r,.az k 0 len 29]
def eW (q:Nat)(tl:List Int)(l:List Bd)(kn:Int)(k len n:Nat):List (List AV):=((bm (kf q tl) l n).map Bd.cells).set q (jb kn k len)
def dz (q:Nat)(tl:List Int)(l:List Bd)(a:Bd)(n:Nat):List (List AV):=((bm (kf q tl) l n).set q a).map Bd.cells
theorem sB {rows:List (List AV)}{n:Nat}{e:List AV}{k:Nat}(a:k=n)(h:n<rows.length):(rows.set n e)[k]? = some e:=by grind
theorem CR {q:Nat}{tl:List Int}{l:List Bd}{kn:Int}{k len n m:Nat}(a:m=n)(h:n<l.length)(b:n≠q):(eW q tl l kn k len n)[m]? = some (l[n].cells):=by
 subst a;show(List.set _ q _)[m]? = _;rw[getElem?_set_ne aa,getElem?_map,getElem?_eq_getElem (by rw[gL];exact h),rP h _]
 rfl
theorem sF {q:Nat}{tl:List Int}{l:List Bd}{kn:Int}{k len n m:Nat}(a:m=q)(h:q<l.length):(eW q tl l kn k len n)[m]? = some (jb kn k len):=by
 subst a;show(List.set _ _ _)[_]? = _;rw[getElem?_set_self (by rw[length_map,gL];exact h)]
theorem CQ {q:Nat}{tl:List Int}{l:List Bd}{b:Bd}{n m:Nat}(a:m=n)(h:n<l.length)(c:n≠q):(dz q tl l b n)[m]? = some (l[n].cells):=by
 subst a;show(List.map _ _)[m]? = _;rw[getElem?_map,getElem?_set_ne aa,getElem?_eq_getElem (by rw[gL];exact h),rP h _]
 rfl
theorem XH {q:Nat}{tl:List Int}{l:List Bd}{kn:Int}{k len n:Nat}:(eW q tl l kn k len n).length=l.length:=by simp[eW,gL]
theorem XI {q:Nat}{tl:List Int}{l:List Bd}{a:Bd}{n:Nat}:(dz q tl l a n).length=l.length:=by simp[dz,gL]
theorem CS {q:Nat}{tl:List Int}{l:List Bd}{kn:Int}{k len n:Nat}(h:n<l.length)(b:n≠q){r:List AV}(a:r=(kf q tl l[n]).cells):(eW q tl l kn k len n).set n r=eW q tl l kn k len (n+1):=by
 subst a;show(List.set _ q _).set n _=_;rw[set_comm _ _ aa,<-map_set,rQ h];rfl
theorem WO {q:Nat}{tl:List Int}{l:List Bd}{kn:Int}{k len:Nat}(h:q<l.length){a:Bd}{r:List AV}(b:r=a.cells):(eW q tl l kn k len q).set q r=dz q tl l a (q+1):=by
 subst b;show(List.set _ q _).set q _=_;rw[set_set,<-map_set,Gw h];rfl
theorem Jw {q:Nat}{tl:List Int}{l:List Bd}{a:Bd}{n:Nat}(h:n<l.length)(c:n≠q){r:List AV}(b:r=(kf q tl l[n]).cells):(dz q tl l a n).set n r=dz q tl l a (n+1):=by
 subst b;show(List.map _ _).set n _=_;rw[<-map_set,set_comm _ _ aa,rQ h];rfl
theorem vZ {ρ:Nat->Nat}{l:List Bd}:(l.map Bd.cells).map (List.map (AV.r1 ρ))=l.map Bd.cells:=by
 rw[map_map];rfl
theorem Ol {ρ:Nat->Nat}{b:Bd}:b.cells.map (AV.r1 ρ)=b.cells:=rfl
theorem xO {ρ:Nat->Nat}{r:Int}{k len:Nat}(a:ρ k=k):(jb r k len).map (AV.r1 ρ)=jb r k len:=by
 show[i64 r,.az _ 0 _ _]=_;rw[a]
theorem oQ {ρ:Nat->Nat}{s q:Nat}{tl:List Int}{l:List Bd}{kn:Int}{k len n:Nat}{es:List (List AV)}(h:es=eW q tl l kn k len n)(a:ρ k=k):an.arr s es=an.cp ρ (.arr s (eW q tl l kn k len n)):=by
 subst h;simp only[an.cp,eW,map_set,vZ,xO a]
theorem qB {ρ:Nat->Nat}{s q:Nat}{tl:List Int}{l:List Bd}{a:Bd}{n:Nat}{es:List (List AV)}(h:es=dz q tl l a n):an.arr s es=an.cp ρ (.arr s (dz q tl l a n)):=by
 subst h;simp only[an.cp,dz,vZ]
theorem JB {ρ:Nat->Nat}{s q:Nat}{tl:List Int}{l:List Bd}{kn:Int}{k len n m:Nat}{r:Int}{k' a:Nat}{es:List (List AV)}(h:es=(eW q tl l kn k len n).set m (jb r k' a))(c:ρ k=k)(b:ρ k'=k'):an.arr s es=an.cp ρ (.arr s ((eW q tl l kn k len n).set m (jb r k' a))):=by
 subst h;simp only[an.cp,eW,map_set,vZ,xO c,xO b]
theorem x_ {ρ:Nat->Nat}{s q:Nat}{tl:List Int}{l:List Bd}{c:Bd}{n m:Nat}{r:Int}{k' a:Nat}{es:List (List AV)}(h:es=(dz q tl l c n).set m (jb r k' a))(b:ρ k'=k'):an.arr s es=an.cp ρ (.arr s ((dz q tl l c n).set m (jb r k' a))):=by
 subst h;simp only[an.cp,dz,map_set,vZ,xO b,Ol]
theorem vH {α:Type}{p:α->Bool}{l:List α}{i:Nat}{x:α}(h:l.all p=true)(a:p x=true):(l.set i x).all p=true:=by
 grind
theorem vY {n:Nat}{l:List Bd}:((l.map Bd.cells).all fun e=>e.all (AV.l1 n))=true:=by
 rw[all_map,all_eq_true];intro x _;rfl
theorem By {nm:Nat}{o:an}{sz n:Nat}{rows:List (List AV)}{a x y:AV}(h:gJ nm o x y){es g:List (List AV)}(k:es=rows.set n [a,x])(c:g=rows.set n [a,y]):j3 nm o (.arr sz es) (.arr sz g):=by
 subst k;subst c;refine .inr ⟨sz,_,_,rfl,rfl,ag,fun i f c=>?_⟩
 by_cases d:n=i
 . subst d
   rw[getElem?_set_self'] at c ⊢;cases l:rows[n]? with
   | none=>grind
   | some e =>
     rw[l] at c;obtain rfl:=Option.some.inj c;refine⟨_,rfl,rfl,fun j z b=>?_⟩
     match j,b with
     | 0,b=>obtain rfl:=Option.some.inj b;exact⟨_,rfl,.inl rfl⟩
     | 1,b=>grind
     | (j+2),b=>cases b
 . rw [getElem?_set_ne d] at c
   refine⟨f,by grind,rfl,fun j z b=>⟨z,b,.inl rfl⟩⟩
theorem w6 {X len:Nat}{L:List Ins}{es:List (List AV)}(h:es=L.map Ins.cells)(a:len=L.length):gJ X (.arr 29 es) (.az X 0 len 29) (.ak 29 (L.map Ins.cells)):=by
 subst h;subst a;exact .inr (gu (fun _=>rfl) (by rw[Tr.get,beq_refl];rfl) rfl rfl)
theorem Sa {q:Nat}{tl:List Int}{l:List Bd}{kn:Int}{k len:Nat}{a:Bd}{nm:Nat}{o:an}{L:List Ins}(h:q<l.length)(c:gJ nm o (.az k 0 len 29) (.ak 29 (L.map Ins.cells)))(b:a.cells=[i64 kn,.ak 29 (L.map Ins.cells)]) :
 j3 nm o (.arr 2 (eW q tl l kn k len q)) (.arr 2 (dz q tl l a (q+1))):=
 By c rfl (by
  rw[<-WO (kn:=kn) (k:=k) (len:=len) h rfl,b];show(List.set _ q _).set q _=_;simp)
theorem Sc {q:Nat}{tl:List Int}{l:List Bd}{kn:Int}{k len n X a:Nat}{nm:Nat}{o:an}{r:Int}(h:n<l.length)(c:n≠q)(d:r=l[n].aj)(b:gJ nm o (.az X 0 a 29) (.ak 29 ((l[n].ins.l.map (bO q tl)).map Ins.cells))) :
 j3 nm o (.arr 2 ((eW q tl l kn k len n).set n (jb r X a))) (.arr 2 (eW q tl l kn k len (n+1))):=by
 subst d;exact By b rfl (CS h c rfl).symm
theorem G1 {q:Nat}{tl:List Int}{l:List Bd}{b:Bd}{n X a:Nat}{nm:Nat}{o:an}{r:Int}(h:n<l.length)(d:n≠q)(e:r=l[n].aj)(c:gJ nm o (.az X 0 a 29) (.ak 29 ((l[n].ins.l.map (bO q tl)).map Ins.cells))) :
 j3 nm o (.arr 2 ((dz q tl l b n).set n (jb r X a))) (.arr 2 (dz q tl l b (n+1))):=by
 subst e;exact By c rfl (Jw h d rfl).symm
theorem sE {s nx:Nat}{q:Nat}{tl:List Int}{l:List Bd}{kn:Int}{k len n:Nat}(h:(jb kn k len).all (AV.l1 nx)=true):an.lt nx (.arr s (eW q tl l kn k len n)):=vH vY h
theorem xY {s nx:Nat}{q:Nat}{tl:List Int}{l:List Bd}{a:Bd}{n:Nat}:an.lt nx (.arr s (dz q tl l a n)):=vY
theorem JA {s nx:Nat}{q:Nat}{tl:List Int}{l:List Bd}{kn:Int}{k len n m:Nat}{e:List AV}(h:(jb kn k len).all (AV.l1 nx)=true)(a:e.all (AV.l1 nx)=true):an.lt nx (.arr s ((eW q tl l kn k len n).set m e)):=vH (vH vY h) a
theorem xZ {s nx:Nat}{q:Nat}{tl:List Int}{l:List Bd}{b:Bd}{n m:Nat}{e:List AV}(a:e.all (AV.l1 nx)=true):an.lt nx (.arr s ((dz q tl l b n).set m e)):=vH vY a
theorem WQ {q:Nat}{tl:List Int}{l:List Bd}{kn:Int}{k len:Nat}:(l.map Bd.cells).set (0+((q:Int)).toNat) (jb kn k len)=eW q tl l kn k len 0:=by simp[eW,pY]
theorem sC {q:Nat}{tl:List Int}{L:List Ins}{j:Nat}(h:j<L.length)(a:((j:Int)).toNat<(bm (bO q tl) L j).length):(bm (bO q tl) L j)[((j:Int)).toNat]=L[j]:=rP h _
theorem xR {q:Nat}{tl:List Int}{L:List Ins}{j:Nat}(h:j<L.length)(b:((j:Int)).toNat<(bm (bO q tl) L j).length){e:List AV}(a:e=(bO q tl ((bm (bO q tl) L j)[((j:Int)).toNat])).cells):((bm (bO q tl) L j).map Ins.cells).set (0+((j:Int)).toNat) e=(bm (bO q tl) L (j+1)).map Ins.cells:=by
 subst a;rw[sC h,Nat.zero_add,Int.toNat_natCast,<-map_set,rQ h]
theorem xS {q:Nat}{tl:List Int}{L:List Ins}{j:Nat}(h:j<L.length)(b:((j:Int)).toNat<(bm (bO q tl) L j).length)(a:¬(((bm (bO q tl) L j)[((j:Int)).toNat]).op=16∧((bm (bO q tl) L j)[((j:Int)).toNat]).p=(q:Int))):(bm (bO q tl) L j).map Ins.cells=(bm (bO q tl) L (j+1)).map Ins.cells:=by
 rw[sC h] at *;rw[Rm h (xP a)]
end Go.Ago
end
namespace Go.Ago
open Go.Proofs List Nat Tryz
def aP (k r:Int):Int:=if r<0 then r else k+r
theorem jY {k r:Int}(h:0≤r):aP k r=k+r:=by unfold aP;grind
theorem mE {k r:Int}(h:r<0):aP k r=r:=by unfold aP;omega
def qY (i:Ins)(k:Int):Ins:={ i with d:=aP k i.d,a:=aP k i.a,b:=aP k i.b,l:=⟨i.l.l.map (aP k),by rw[length_map];exact i.l.h⟩ }
abbrev gr (i:Ins)(d a b:Int)(l:BL Int):Ins:={ i with d:=d,a:=a,b:=b,l:=l }
abbrev cD (i:Ins):Prop:=i.op≠3∧0≤i.b∧i.b≠i.a
abbrev dD (i:Ins):Prop:=i.op≠3∧0≤i.d
def fG (k:Int)(i:Ins):List Ins:=(if 0≤i.a then [cq 0 (aP k i.a)] else [])++(if cD i then [cq 1 (aP k i.b)] else [])
def xF (k:Int)(i:Ins):Ins:=gr i (if dD i then 2 else aP k i.d) (if 0≤i.a then 0 else aP k i.a) (if i.op≠3∧0≤i.b then (if i.b=i.a then 0 else 1) else aP k i.b) ⟨i.l.l.map (aP k),by rw[length_map];exact i.l.h⟩
def fF (k:Int)(i:Ins):List Ins:=if dD i then [cq (aP k i.d) 2] else []
def bY (k:Int)(i:Ins):List Ins:=fG k i++xF k i::fF k i
def bS (i:Ins):Nat:=(if 0≤i.a then 1 else 0)+(if cD i then 1 else 0)
theorem ya {k:Int}{i:Ins}:(fG k i).length=bS i:=by
 unfold fG bS;rw[length_append]
 grind
theorem WK {k:Int}{i:Ins}:(fF k i).length=if dD i then 1 else 0:=by
 unfold fF
 grind
theorem pK {k:Int}{i:Ins}:(bY k i).length=bS i+1+(if dD i then 1 else 0):=by
 unfold bY;rw[length_append,length_cons,ya,WK];omega
theorem WN {i:Ins}:bS i≤2:=by unfold bS;grind
theorem An {k:Int}{i:Ins}:1≤(bY k i).length∧(bY k i).length≤4:=by
 rw[pK];have:=@WN i
 grind
theorem t_ {k:Int}{i y:Ins}{s:Nat}(h:(bY k i)[s]? = some y) :
 (s=0∧s<bS i∧0≤i.a∧y=cq 0 (k+i.a))∨(s+1=bS i∧cD i∧y=cq 1 (k+i.b))∨(s=bS i∧y=xF k i)∨(s=bS i+1∧(bY k i).length=s+1∧dD i∧y=cq (k+i.d) 2):=by
 have o:=@pK k i;have f:s<(bY k i).length:=(List.getElem?_eq_some_iff.1 h).1;rw[o] at f;unfold bY at h
 by_cases c:s<bS i
 . rw [getElem?_append_left (by rw [ya]; exact c)] at h
   unfold fG at h;unfold bS at c ⊢
   by_cases g:0≤i.a
   . rw [if_pos g] at h c ⊢
     by_cases e:cD i
     . rw [if_pos e] at h c ⊢
       match s,c,h with
       | 0,_,h=>simp at h;exact .inl ⟨rfl,aa,g,by rw[<-h,jY g]⟩
       | 1,_,h=>simp at h;exact .inr (.inl ⟨rfl,e,by rw[<-h,jY e.2.1]⟩)
       | (n+2),c,_=>omega
     . rw [if_neg e] at h c ⊢
       match s,c,h with
       | 0,_,h=>simp at h;exact .inl ⟨rfl,aa,g,by rw[<-h,jY g]⟩
       | (n+1),c,_=>omega
   . rw [if_neg g] at h c ⊢
     by_cases e:cD i
     . rw [if_pos e] at h c ⊢
       match s,c,h with
       | 0,_,h=>simp at h;exact .inr (.inl ⟨rfl,e,by rw[<-h,jY e.2.1]⟩)
       | (n+1),c,_=>omega
     . rw [if_neg e] at c
       omega
 . rw [getElem?_append_right (by rw [ya]; omega), ya] at h
   by_cases m:s=bS i
   . rw [m, Nat.sub_self] at h
     simp at h;exact .inr (.inr (.inl ⟨m,h.symm⟩))
   . by_cases j : dD i
     . rw [if_pos j] at f
       have l:s=bS i+1:=aa;rw[l,show bS i+1 - bS i=0+1 from aa,getElem?_cons_succ] at h
       unfold fF at h;rw[if_pos j] at h;simp at h;refine .inr (.inr (.inr ⟨l,by rw[o,if_pos j];omega,j,by rw[<-h,jY j.2]⟩))
     . rw [if_neg j] at f
       omega
def dA (k:Int)(l:List Ins):List Ins:=l.flatMap (bY k)
def cO (k:Int)(l:List Ins)(n:Nat):Nat:=(dA k (l.take n)).length
def dV (k:Int)(n:Nat)(i:Ins):List Int:=replicate (bS i) (-1)++(n:Int)::replicate (if dD i then 1 else 0) (-1)
def cJ (k:Int):Nat->List Ins->List Int
 | _,[]=>[]
 | n,i::l=>dV k n i++cJ k (n+1) l
def eM (k:Int)(l:List Ins)(m:Nat):List Int:=(List.range m).map fun n=>(cO k l n:Int)
theorem sy {k:Int}{n:Nat}{i:Ins}:(dV k n i).length=(bY k i).length:=by
 unfold dV;rw[length_append,length_cons,length_replicate,length_replicate,pK];omega
theorem uO {k:Int}:∀{l:List Ins} {n:Nat},(cJ k n l).length=(dA k l).length
 | [],_=>rfl
 | i :: l, n => by
   show(dV k n i++cJ k _ l).length=(bY k i++dA k l).length;rw[length_append,length_append,sy,uO]
theorem IU {k:Int}:∀{l:List Ins} {n:Nat} {i:Ins},cJ k n (l++[i])=cJ k n l++dV k (n+l.length) i
 | [],n,i=>by show dV k n i++[]=[]++dV k _ i;simp
 | x :: l, n, i => by
   show dV k n x++cJ k _ (l++[i])=dV k n x++cJ k _ l++dV k (n+(l.length+1)) i;rw[IU,append_assoc,show n+1+l.length=n+(l.length+1) from by omega]
theorem J9 {k:Int}{l m:List Ins}:dA k (l++m)=dA k l++dA k m:=flatMap_append
theorem XE {k:Int}{i:Ins}:dA k [i]=bY k i:=by unfold dA;simp
theorem Ke {k:Int}{l:List Ins}{m:Nat}(h:m<l.length):dA k (l.take (m+1))=dA k (l.take m)++bY k l[m]:=by
 rw[take_succ_eq_append_getElem h,J9,XE]
theorem of_next {k:Int}{l:List Ins}{m:Nat}(h:m<l.length):cJ k 0 (l.take (m+1))=cJ k 0 (l.take m)++dV k m l[m]:=by
 rw[take_succ_eq_append_getElem h,IU,Nat.zero_add,length_take,Nat.min_eq_left aa]
theorem M4 {k:Int}{l:List Ins}{m:Nat}:eM k l (m+1)=eM k l m++[((dA k (l.take m)).length:Int)]:=by
 unfold eM;rw[range_succ,map_append];rfl
theorem M3 {k:Int}{l:List Ins}{m:Nat}:(eM k l m).length=m:=by simp[eM]
theorem DR {k:Int}{l:List Ins}{m n:Nat}(h:n<m):(eM k l m).getD n 0=(cO k l n:Int):=by simp[eM,h]
theorem C_ {k:Int}:∀{l:List Ins},(dA k l).length≤4 * l.length
 | []=>Nat.le_refl _
 | i :: l => by
   show(bY k i++dA k l).length≤_;have:=@C_ k l;have:=(@An k i).2
   grind
theorem vk {k:Int}{l:List Ins}{m:Nat}(h:m<l.length):cO k l (m+1)=cO k l m+(bY k l[m]).length:=by
 unfold cO;rw[Ke h,length_append]
theorem y3 {k:Int}{l:List Ins}:cO k l l.length=(dA k l).length:=by unfold cO;simp
theorem Lc {l:List Ins}{n:Nat}(h:n<l.length):l=l.take n++l[n]::l.drop (n+1):=by
 simp
theorem EY {k:Int}{l:List Ins}{n s:Nat}(h:n<l.length)(a:s<(bY k l[n]).length):(dA k l)[cO k l n+s]? = (bY k l[n])[s]?:=by
 have e:dA k l=dA k (l.take n)++(bY k l[n]++dA k (l.drop (n+1))):=by
  conv=>lhs;rw[Lc h]
  rw[J9];rfl
 rw[e,getElem?_append_right (by unfold cO;omega),show cO k l n+s - (dA k _).length=s from by unfold cO;omega,getElem?_append_left a]
theorem Cx {k:Int}:∀{a b:List Ins} {n:Nat},cJ k n (a++b)=cJ k n a++cJ k (n+a.length) b
 | [],b,n=>rfl
 | x :: a, b, n => by
   show dV k n x++cJ k _ (a++b)=dV k n x++cJ k _ a++cJ k (n+(a.length+1)) b;rw[Cx,append_assoc,show n+1+a.length=n+(a.length+1) from by omega]
theorem Cw {k:Int}{n s:Nat}{i:Ins}(c:s<(bY k i).length):(dV k n i)[s]? = some (if s=bS i then (n:Int) else -1):=by
 rw[pK] at c;unfold dV
 by_cases b:s<bS i
 . rw[getElem?_append_left (by rw[length_replicate];exact b),getElem?_replicate,if_pos b,if_neg aa]
 . rw [getElem?_append_right (by rw [length_replicate]; omega), length_replicate]
   by_cases a:s=bS i
   . rw[a,Nat.sub_self,if_pos rfl];rfl
   . rw[if_neg a,show s - bS i=(s - bS i - 1)+1 from aa,getElem?_cons_succ,getElem?_replicate,if_pos aa]
theorem Cy {k:Int}{l:List Ins}{n s:Nat}(h:n<l.length)(a:s<(bY k l[n]).length):(cJ k 0 l)[cO k l n+s]? = some (if s=bS l[n] then (n:Int) else -1):=by
 have e:cJ k 0 l=cJ k 0 (l.take n)++(dV k n l[n]++cJ k (n+1) (l.drop (n+1))):=by
  conv=>lhs;rw[Lc h]
  rw[Cx,Nat.zero_add,length_take,Nat.min_eq_left aa];rfl
 have b:(cJ k 0 (l.take n)).length=cO k l n:=uO;rw[e,getElem?_append_right aa,show cO k l n+s - (cJ k 0 (l.take n)).length=s from aa,getElem?_append_left (by rw[sy];exact a),Cw a]
theorem y4 {k:Int}{l:List Ins}:∀{n m:Nat},n≤m->m≤l.length->cO k l n≤cO k l m
 | n,0,h,_=>by grind
 | n, m + 1, h, b => by
   by_cases e:n=m+1
   . grind
   . rw [vk aa]
     exact Nat.le_trans (y4 aa aa) (le_add_right _ _)
theorem AW {k:Int}{l:List Ins}:∀{m p:Nat},m≤l.length->p<cO k l m->∃n s,∃h:n<l.length,s<(bY k l[n]).length∧p=cO k l n+s
 | 0,p,_,h=>absurd h (not_lt_zero _)
 | m + 1, p, c, h => by
   by_cases b:p<cO k l m
   . exact AW aa b
   . rw [vk aa] at h
     exact⟨m,p - cO k l m,aa,aa,aa⟩
theorem wD {k:Int}{l:List Ins}{n m s t:Nat}(f:n<l.length)(p:m≤l.length)(q:s<(bY k l[n]).length)(i:∀h:m<l.length,t<(bY k l[m]).length)(j:m=l.length->t=0)(e:cO k l n+s=cO k l m+t):n=m∧s=t:=by
 by_cases g:n<m
 . have a := vk (k := k) f
   have b:=y4 (k:=k) (l:=l) (show n+1≤m from g) p
   omega
 . by_cases o : m < n
   . have c : m < l.length := aa
     have a:=vk (k:=k) c;have b:=y4 (k:=k) (l:=l) (show m+1≤n from o) aa
     have:=i c;omega
   . have : n = m := aa
     subst this;exact⟨rfl,aa⟩
end Go.Ago
namespace Go.Ago
open List Nat
def a_ (l:List Int):Prop:=l.Pairwise (·<·)
theorem a_.cons {x:Int}{l:List Int}:a_ (x::l)↔(∀y∈l,x<y)∧a_ l:=pairwise_cons
theorem a_.nil:a_ []:=Pairwise.nil
theorem a_.sub:∀{a b:List Int},a_ a->a_ b->(∀x∈a,x∈b)->a.Sublist b
 | [],b,_,_,_=>nil_sublist b
 | x::a,[],_,_,h=>absurd (h x mem_cons_self) ag
 | x :: a, y :: b, f, g, h => by
   have d:=a_.cons.1 f;have c:=a_.cons.1 g;rcases mem_cons.1 (h x mem_cons_self) with e|j
   . subst e
     refine Sublist.cons_cons _ (a_.sub d.2 c.2 fun z k=>?_)
     grind
   . have i := c.1 x j
     refine Sublist.cons _ (a_.sub f c.2 fun z k=>?_)
     grind
theorem a_.ext {a b:List Int}(f:a_ a)(e:a_ b)(h:∀x,x∈a↔x∈b):a=b:=by
 have d:=a_.sub f e fun x c=>(h x).1 c
 have g:=a_.sub e f fun x c=>(h x).2 c
 exact d.eq_of_length (Nat.le_antisymm d.length_le g.length_le)
theorem a_.filter {l:List Int}(h:a_ l)(p:Int->Bool):a_ (l.filter p):=Pairwise.sublist (ag) h
theorem a_.len:∀{l:List Int} {a N:Int},a_ l->(∀x∈l,a≤x∧x<N)->l.length≤(N - a).toNat
 | [],_,_,_,_=>zero_le _
 | x :: l, a, N, h, b => by
   have d:=a_.cons.1 h;have e:=b x (ag);have:=a_.len (a:=x+1) d.2 fun y c=>⟨by grind,(b y (mem_cons_of_mem _ c)).2⟩
   grind
def jL:List Int->Int->List Int
 | [],r=>[r]
 | x::l,r=>if r<x then r::x::l else if r=x then x::l else x::jL l r
theorem ia:∀{l:List Int} {r x:Int},x∈jL l r↔x=r∨x∈l
 | [],r,x=>by simp[jL]
 | y :: l, r, x => by
   unfold jL;split
   . simp
   . split
     . grind
     . rw [mem_cons, ia, mem_cons]
       grind
theorem oC:∀{l:List Int} {r:Int},a_ l->a_ (jL l r)
 | [],r,_=>by unfold jL;exact a_.cons.2 ⟨fun _ c=>(by cases c),a_.nil⟩
 | y :: l, r, h => by
   have f:=a_.cons.1 h;unfold jL;split
   . rename_i d
     refine a_.cons.2 ⟨fun z b=>?_,h⟩
     grind
   . split
     . exact h
     . refine a_.cons.2 ⟨fun z b => ?_, oC f.2⟩
       rcases ia.1 b with e|b
       . omega
       grind
def ji (a b:List Int):List Int:=a.foldl jL b
theorem jw:∀{a b:List Int} {x:Int},x∈ji a b↔x∈a∨x∈b
 | [],b,x=>by simp[ji]
 | y :: a, b, x => by
   show x∈ji a _↔_;rw[jw,ia]
   grind
theorem r_:∀{a b:List Int},a_ b->a_ (ji a b)
 | [],_,h=>h
 | _::a,_,h=>r_ (a:=a) (oC h)
structure aI where
 all:Bool
 l:List Int
def aI.has (s:aI)(r:Int):Bool:=decide (r∈s.l) != s.all
def aI.wo (s:aI)(r:Int):aI:=if s.has r=true then (if s.all=true then ⟨true,jL s.l r⟩ else ⟨false,s.l.filter fun x=>!decide (x=r)⟩) else s
def aI.mt (s o:aI):aI:=if s.all=true then (if o.all=true then ⟨true,ji s.l o.l⟩ else ⟨false,o.l.filter s.has⟩) else ⟨false,s.l.filter o.has⟩
structure aI.Ok (N:Int)(s:aI):Prop where
 inc:a_ s.l
 bd:∀x∈s.l,0≤x∧x<N
theorem aI.uz {l:List Int}{r:Int}:(aI.mk true l).has r=true↔r∉l:=by simp[aI.has]
theorem aI.qe {l:List Int}{r:Int}:(aI.mk false l).has r=true↔r∈l:=by simp[aI.has]
theorem aI.SG {s:aI}{r x:Int}:(s.wo r).has x=true↔s.has x=true∧x≠r:=by
 obtain⟨a,l⟩:=s;unfold aI.wo;split
 . cases a
   . rw [if_neg ag]
     rw[aI.qe,aI.qe];simp
   rw[if_pos rfl,aI.uz,aI.uz,ia]
   grind
 grind
theorem aI.SF {s o:aI}{x:Int}:(s.mt o).has x=true↔s.has x=true∧o.has x=true:=by
 obtain⟨a,l⟩:=s;obtain⟨b,m⟩:=o;unfold aI.mt;cases a
 . rw[if_neg ag,aI.qe,aI.qe,mem_filter]
 rw[if_pos rfl];cases b
 . rw [if_neg ag, aI.qe, aI.qe]
   grind
 rw[if_pos rfl,aI.uz,aI.uz,aI.uz,jw];simp
theorem aI.Ok.wo {N:Int}{s:aI}(h:s.Ok N){r:Int}(b:0≤r∧r<N):(s.wo r).Ok N:=by
 unfold aI.wo;split
 . split
   . exact⟨oC h.inc,fun x a=>(ia.1 a).elim (fun e=>aa) (h.bd x)⟩
   exact⟨h.inc.filter _,fun x a=>h.bd x (mem_filter.1 a).1⟩
 omega
theorem aI.Ok.mt {N:Int}{s o:aI}(h:s.Ok N)(b:o.Ok N):(s.mt o).Ok N:=by
 unfold aI.mt;split
 . split
   . exact⟨r_ b.inc,fun x a=>(jw.1 a).elim (h.bd x) (b.bd x)⟩
   exact⟨b.inc.filter _,fun x a=>b.bd x (mem_filter.1 a).1⟩
 exact⟨h.inc.filter _,fun x a=>h.bd x (mem_filter.1 a).1⟩
theorem aI.Ok.one {N r:Int}(c:0≤r∧r<N):(aI.mk false [r]).Ok N:=⟨a_.cons.2 ⟨fun _ a=>(by cases a),a_.nil⟩,fun x b=>by grind⟩
theorem aI.Ok.top {N:Int}:(aI.mk true []).Ok N:=⟨a_.nil,fun x a=>by cases a⟩
def aI.rk (N:Nat)(s:aI):Nat:=if s.all=true then 2 * N+1 - s.l.length else s.l.length
theorem aI.Ok.len {N:Nat}{s:aI}(h:s.Ok N):s.l.length≤N:=by
 have:=a_.len h.inc h.bd;omega
theorem aI.uY {N:Nat}{s o:aI}(h:s.Ok N)(f:o.Ok N):(s.mt o).rk N≤s.rk N∧((s.mt o).rk N=s.rk N->s.mt o=s):=by
 have g:=h.len;have q:=f.len;have c:=(h.mt f).len;obtain⟨a,l⟩:=s;obtain⟨b,m⟩:=o;cases a
 . have e : (aI.mk false l).mt ⟨b, m⟩ = ⟨false, l.filter (aI.mk b m).has⟩ := by unfold aI.mt; rw [if_neg ag]
   rw[e];have d:(l.filter (aI.mk b m).has).Sublist l:=filter_sublist;refine⟨by show length _≤length _;grind,fun i=>?_⟩
   rw[d.eq_of_length i]
 . cases b
   . have e : (aI.mk true l).mt ⟨false, m⟩ = ⟨false, m.filter (aI.mk true l).has⟩ := by unfold aI.mt; rw [if_pos rfl, if_neg ag]
     rw[e] at c ⊢;dsimp only at g c;have j:(aI.mk false (m.filter (aI.mk true l).has)).rk N=(m.filter (aI.mk true l).has).length:=rfl;have k:(aI.mk true l).rk N=2 * N+1 - l.length:=rfl;omega
   . have e : (aI.mk true l).mt ⟨true, m⟩ = ⟨true, ji l m⟩ := by unfold aI.mt; rw [if_pos rfl, if_pos rfl]
     rw[e] at c ⊢;have d:l.Sublist (ji l m):=a_.sub h.inc (r_ f.inc) fun x n=>jw.2 (.inl n)
     have p:=d.length_le;dsimp only at g c;have j:(aI.mk true (ji l m)).rk N=2 * N+1 - (ji l m).length:=rfl;have k:(aI.mk true l).rk N=2 * N+1 - l.length:=rfl
     grind
end Go.Ago
