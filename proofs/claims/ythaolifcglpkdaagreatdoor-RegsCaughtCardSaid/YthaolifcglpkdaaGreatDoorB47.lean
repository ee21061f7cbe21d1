/-
  Part B47: lemmas, each with its own conditions.
-/
import Derived.Test.YthaolifcglpkdaaGreatDoorB45
import Derived.Test.YthaolifcglpkdaaGreatDoorB46
set_option maxRecDepth 100000
set_option maxHeartbeats 0
set_option linter.all false
section
namespace Go.Ago
open Go.Proofs List Nat Tryz
attribute [local irreducible] bA bw aV bp bG wr aZ bF comp DC DP DW DV
attribute [local irreducible] du ct aL cE dE dm dR dL bU dw dG bK bn bB eh eo a_
theorem Wy (l:List Ins)(h:l.length≤100000):af 45 [i64 ((l.map Ins.cells).length:Int)] (fun a=>a = .ret (aT (a_ l.length))):=by
 rw[zba];exact Jb _ h
theorem Wz (n:Int)(h:0≤n∧n≤100000):af 45 [i64 n] (fun a=>a = .ret (aT (a_ n.toNat))):=by
 obtain⟨k,rfl⟩:=zbW h.1;exact Jb k aa
theorem zaM (c:Cd)(q:Nat)(d:Bd)(f:q<c.b.l.length)(a:c.b.l.length≤100):af 44 [c.av,i64 q,d.av] (fun e=>e = .ret (kU c q d).av):=zaL c _ _ ⟨aa,aa⟩ a
theorem SZ (c:Cd)(q:Nat)(d:bK c.b.l≤100000)(e:q<c.b.l.length):af 33 [c.av,i64 q] (fun a=>∃g:Gr,a = .ret g.av∧cZ c (q:Int) g):=Hv c q d ⟨aa,aa⟩
theorem Zf {H:aj}{n:Nat}{cs a:List AV}(h:aM (snap H n) cs=some a):snap H (n+1) (.ao cs)=some (.ao a):=by simp[snap,h]
theorem Ci (k:Int)(c:4≤k∧k≤16):af 41 [i64 k] (fun b=>b = .ret (.bool true)):=zw func41 W
theorem ZZ {bs:List Bd}{m:Nat}:eo bs m≤bK bs:=by
 unfold eo bK
 induction bs generalizing m with
 | nil=>simp
 | cons b bs d =>
   cases m<;>grind
theorem bQ.last {c d:Cd}{k:Int}{q:Nat}{a:List (List Int)}(h:∃T,bQ c k q d a T)(e:q=c.b.l.length):∃T,bQ c k c.b.l.length d a T:=e ▸ h
theorem TT {bs:List Bd}{b:Bd}(h:b∈bs):b.ins.l.length≤bK bs:=ki h
section
variable {c d:Cd} {k:Int} {q:Nat} {of:List (List Int)}
theorem bQ.gv (h:∃T,bQ c k q d of T)(f:cJ c)(e:4≤k∧k≤16)(i:dS c 500 60)(j:q<c.b.l.length){g:Gr}(a:cZ d (q:Int) g):gA g:=by
 obtain⟨T,h⟩:=h;exact(h.graph f e i j a).1
theorem bQ.gd (h:∃T,bQ c k q d of T)(a:cJ c)(m:4≤k∧k≤16)(n:dS c 500 60)(o:q<c.b.l.length){g:Gr}(j:cZ d (q:Int) g):∀i∈g.ins.l,i.d = -1∨hasB i.op 68=true:=fun i r=>by
 obtain⟨T,h⟩:=h;rw[(h.graph a m n o j).2.1] at *;obtain⟨y,p,rfl⟩:=zbG.1 r;obtain⟨s,_,t,_⟩:=@jL T y;have f:=a.gQ _ y p;rw[s,t];exact f.d.imp id fun e=>f.fd e.1
theorem bQ.SS (h:∃T,bQ c k q d of T)(f:cJ c)(i:4≤k∧k≤16)(e:dS c 500 60)(j:q<c.b.l.length){g:Gr}(m:cZ d (q:Int) g){S:List (List aA)}{W:Nat->List Int}{B:List Ins}(a:j3 g S k W B):B.length≤1000:=by
 have:=(bQ.gv h f i e j m).eT.1;have:=a.len;omega
theorem bQ.Zn (h:∃T,bQ c k q d of T)(s:cJ c)(w:4≤k∧k≤16)(m:dS c 500 60)(x:q<c.b.l.length){g:Gr}(z:cZ d (q:Int) g):tU d k q g.ah.toNat:=by
 obtain⟨T,h⟩:=h;have D:∀b∈c.b.l,b.ah≤100:=fun b f=>by have:=m.ah b f;omega
 have a:=h.code s w D m.sum;obtain⟨o,Q,L,_⟩:=h.graph s w m x z;obtain⟨O,H,E,_⟩:=z;have n:q<d.b.l.length:=by rw[h.len];exact x
 have u:g.ins=d.b.l[q].ins:=by simpa using H
 have F:g.ah=d.b.l[q].ah:=by simpa using E
 have y:=h.sum s;have I:=m.sum;have r:=o.ah;have e:((g.ah.toNat:Nat):Int)=g.ah:=aa;refine⟨n,by rw[h.len];have:=m.nb;omega,aa,aa,by rw[e,F],?_,?_,?_,?_,?_,?_⟩
 . rw[<-u];exact o.eT.1
 . rw[e,<-u];exact o.ins
 . rw[<-u];exact o.fH
 . intro b f i t v C
   obtain⟨j,G,rfl⟩:=zbo.1 f;obtain⟨M,N,J,A⟩:=lB a.ok G t v;have K:i.p.toNat=q:=aa;simp only[K] at A;exact⟨J,A⟩
 . intro b f
   have:=TT f;omega
 . intro i t B
   exact((a.gQ n i t).mv B).1
theorem bQ.ZX (h:∃T,bQ c k q d of T)(e:cJ c)(a:dS c 500 60):bK d.b.l≤2000:=by
 obtain⟨T,h⟩:=h;have:=h.sum e;have:=a.sum;omega
theorem bQ.CV (h:∃T,bQ c k q d of T):of.length=q∧q≤c.b.l.length∧d.b.l.length=c.b.l.length:=by
 obtain⟨T,h⟩:=h;exact⟨h.gU,h.le,h.len⟩
theorem bQ.Lr (h:∃T,bQ c k q d of T)(n:cJ c)(g:4≤k∧k≤16)(i:q<c.b.l.length){j:q<d.b.l.length}{e:Cd}{a:List Int}(f:mQ d k q d.b.l[q].ins.l d.b.l[q].ah e a):∃T,bQ c k (q+1) e (of++[a]) T:=by
 obtain⟨T,h⟩:=h;exact⟨_,h.Ls n g i _ f⟩
theorem bQ.Hj (h:∃T,bQ c k q d of T)(f:cJ c)(i:4≤k∧k≤16)(j:dS c 500 60)(m:q<c.b.l.length){g:Gr}(n:cZ d (q:Int) g){a:Bd}{S:List (List aA)}{W:Nat->List Int}(p:a.ah=k)(r:fD g S)(e:j3 g S k W a.ins.l):∃T,bQ c k (q+1) (kU d q a) (of++[a_ a.ins.l.length]) T:=by
 obtain⟨T,h⟩:=h;exact⟨_,h.fits f i j m n p r e⟩
end
theorem Of (c:Cd)(k:Int)(e:dS c 500 60)(p:4≤k∧k≤16)(N:bU c=0):af 11 [c.av,i64 k] (fun ae=>∃(d:Cd) (J:List (List Int)) (v:AV),ae = .ret (.ao [d.av,.agg [v],i64 0])∧Told v (.ak 1 (J.map cx))∧∃T,bQ c k c.b.l.length d J T):=by
 have s:cJ c:=(uh c fun m=>zbu sH (by have:=e.sum;omega)).1 N
 have hnb:=e.nb;have t:∀(j:Nat) (h:j<c.b.l.length),c.b.l[j].ah≤60:=fun j h=>e.ah _ (za9 h)
 have K:∀(j:Nat) (h:j<c.b.l.length),c.b.l[j].ins.l.length≤500:=fun j h=>zbu (ki (za9 h)) e.sum
 have B:∀m,eo c.b.l m≤500:=fun m=>zbu ZZ e.sum
 have Z:=@LR c.b.l;refine zw func11 ?_;refine zg ?_
 repeat' ((first|(refine zp ?_ ?_<;>first|exact⟨⟩|intro h)|(refine DC.pure rfl (iW c (by have:=e.sum;omega)) ?_;rintro _ rfl)|(refine DC.pure rfl (Ci k p) ?_;rintro _ rfl)|refine zd func30 ?_|refine zd func40 ?_)<;>refine zg ?_)
 refine DW.aO aC aD [2,3,4,5,6,27,28] [] 0 (fun x:{m:Nat // m≤c.b.l.length}=>[(29,i64 x.1),(8,i64 (eo c.b.l x.1))]) (fun _=>[]) [] (fun x=>c.b.l.length+1 - x.1) (⟨0,zbq _⟩) ?_
 refine zl fun x=>?_
 rcases x with⟨m,hmb⟩
 have Q:=B m;have U:=t m;refine zk ?_
 repeat' ((first|refine az.mk _ (bO (l:=c.b.l) (i:=m) aa) ?_|(refine zb ?_ ?_<;>(intro h)<;>try (exfalso;(first|omega|(have X:=t m aa;omega)))))<;>refine zk ?_)
 . have G : m < c.b.l.length := aa
   have h1:=D1 G;have h2:=B (m+1);have h3:=K m G;have R:wr .i64 ((eo c.b.l m:Int)+((c.b.l[m]).ins.l.length:Int))=(eo c.b.l (m+1):Int):=by rw[aE aa aa];omega
   refine⟨⟨m+1,G⟩,?_,rfl,bH⟩
   conv=>whnf
   repeat' first|exact True.intro|rfl|apply And.intro|(refine cw ?_ ?_ ?_<;>(try dsimp only)<;>omega)|exact zbc (AV.int .i64) (by rw[zba];exact R)
 refine DW.aO aC aD [3,4,5,6,11,12,52] [36,37] 4000 (fun x:{x:(Nat×Cd)×List (List Int) // ∃T,bQ c k x.1.1 x.1.2 x.2 T}=>[(53,i64 x.1.1.1)]) (fun x=>(36,.arr 7 [x.1.1.2.cells])::(37,.arr 1 [[fu 2000 1 (x.1.2.map cx)]])::fq 2000 1 (x.1.2.map cx)) [(2000,.cell 37 0)] (fun x=>c.b.l.length+1 - x.1.1.1) (⟨((0,c),[]),[],bQ.start c k⟩) ?_
 conv=>whnf
 refine⟨?_,fun x=>?_⟩
 . conv => whnf
   (repeat' first|exact True.intro|apply And.intro|rfl)
 rcases x with⟨⟨⟨q,d⟩,J⟩,M⟩
 have a:∃T,bQ c k q d J T:=M;have Y:=(bQ.CV a).2.1;have hdl:=(bQ.CV a).2.2;have I:=(bQ.CV a).1;have D:=bQ.ZX a s e;have P:∀(j:Nat) (h:j<d.b.l.length),d.b.l[j].ins.l.length≤2000:=fun j h=>zbu (ki (za9 h)) D
 rcases J with _|⟨o,H⟩
 all_goals
  try simp only[zbd,zbp] at I
  refine zg ?_
  repeat' ((first|refine zf ?_|(refine Rq.mk (eP 24 2000 ag rfl rfl gX ab) ?_)|(refine zp ?_ ?_<;>intro h)|(refine DC.pure rfl (SZ d q aa aa) ?_;rintro _ ⟨g,rfl,C⟩)|(refine DC.pure rfl (Vh g (bQ.gv a s p e aa C) k ⟨aa,aa⟩) ?_;rintro _ ⟨v,b,rfl,⟨rfl,rfl⟩|⟨rfl,u,S,V,rfl,E,F,y⟩⟩)|(refine DC.pure rfl (QM g (bQ.gv a s p e aa C) (bQ.gd a s p e aa C) k ⟨aa,aa⟩) ?_;rintro _ ⟨v2,b2,rfl,⟨rfl,rfl⟩|⟨rfl,u,S,V,rfl,E,F,y⟩⟩)|(refine DC.pure rfl (zaM d q u aa aa) ?_;rintro _ rfl)|(refine zh rfl (Wy u.ins.l (by have:=bQ.SS a s p e aa C y;omega)) ?_;rintro _ rfl)|(refine zh rfl (Wz g.ah (by have:=(bQ.gv a s p e aa C).ah;omega)) ?_;rintro _ rfl)|(refine zh rfl (Zp d k q g.ah.toNat (bQ.Zn a s p e aa C)) ?_;rintro _ ⟨w,z,rfl,L⟩))<;>refine zg ?_)
 all_goals first
  | (refine ⟨⟨((q + 1, w), [z]), (show ∃ T, bQ c k (q + 1) w ([z]) T from bQ.Lr a s p aa L)⟩, ?_, rfl, bH⟩
     conv=>whnf
     (exact zF))
  | (refine ⟨⟨((q + 1, kU d q u), [a_ u.ins.l.length]), (show ∃ T, bQ c k (q + 1) (kU d q u) ([a_ u.ins.l.length]) T from bQ.Hj a s p e aa C E F y)⟩, ?_, rfl, bH⟩
     conv=>whnf
     (exact zF))
  | (refine ⟨⟨((q + 1, w), o :: (H ++ [z])), (show ∃ T, bQ c k (q + 1) w (o :: (H ++ [z])) T from bQ.Lr a s p aa L)⟩, ?_, rfl, bH⟩
     conv=>whnf
     (exact zF))
  | (refine ⟨⟨((q + 1, kU d q u), o :: (H ++ [a_ u.ins.l.length])), (show ∃ T, bQ c k (q + 1) (kU d q u) (o :: (H ++ [a_ u.ins.l.length])) T from bQ.Hj a s p e aa C E F y)⟩, ?_, rfl, bH⟩
     conv=>whnf
     (exact zF))
  | exact⟨d,[],.ai,rfl,Told.nil,(bQ.last a aa)⟩
  | (generalize O : snap _ _ _ = rr
     obtain rfl:=O.symm.trans (Zf (n:=19) (aJ rfl (aJ (lM (n:=18) (aJ (fj (f:=cx) (l:=o::H) (n:=17) (fun _=>rfl) rfl rfl ag) rfl)) (aJ rfl rfl))))
     exact⟨d,o::H,_,rfl,Told.r,(bQ.last a aa)⟩)
end Go.Ago
end
section
namespace Go.Ago
open Go.Proofs List Nat Tryz
attribute [local irreducible] bA bw aV bp bG wr aZ bF comp DC DP DW DV
attribute [local irreducible] cR ee bP aQ bM
attribute [local irreducible] du ct aL cE dE dm dR dL bU dw dG bK bn bB eh eo
theorem HK {c c':Prop}[Decidable c][Decidable c']{a b:Int}(h:c↔c'):(if c then [a] else []).length=(if c' then [b] else []).length:=by
 grind
theorem SimI.usn {x y:Ins}(h:SimI x y):(aQ y).length=(aQ x).length:=by
 have c:=h.op;have e:=h.a;have f:=h.b;have g:(if hasB y.op 65=true∧y.a≠-1 then [y.a] else []).length=(if hasB x.op 65=true∧x.a≠-1 then [x.a] else []).length:=HK (by grind)
 have i:(if hasB y.op 66=true∧y.b≠-1 then [y.b] else []).length=(if hasB x.op 66=true∧x.b≠-1 then [x.b] else []).length:=HK (by grind)
 have d:(if hasB y.op 76=true then y.l.l else []).length=(if hasB x.op 76=true then x.l.l else []).length:=by
  rw[c];split
  . exact h.l
  . rfl
 unfold aQ
 grind
structure fp (c d:Cd)(of:List (List Int)):Prop where
 hc:cJ c
 hd:cJ d
 co:q0 c d of
 hs:bK d.b.l≤2000
 hr:∀b∈c.b.l,b.ah≤1000
 hl:∀b∈c.b.l,∀i∈b.ins.l,i.l.l.length≤40
 nb:c.b.l.length≤1000
section
variable {c d:Cd} {of:List (List Int)}
theorem fp.ld (h:fp c d of){q:Nat}(a:q<d.b.l.length):d.b.l[q].ins.l.length≤2000:=zbu (ki (ag)) h.hs
theorem fp.S4 (h:fp c d of){q:Nat}(o:q<d.b.l.length){g:Gr}(p:cZ d (q:Int) g):tK g:=by
 have j:=p.fw;have m:g.ins.l=d.b.l[q].ins.l:=by obtain⟨_,x,_⟩:=p;simp only[x,zbt]
 have i:g.ins.l.length=d.b.l[q].ins.l.length:=by rw[m]
 have s:g.entries.l.length≤2000:=by
  obtain⟨_,_,_,e,n⟩:=p;unfold eh at n;rcases n with⟨_,_,r⟩|⟨_,_,_,r⟩|⟨_,_,_,r,_⟩
  . rw[r];exact zbq _
  . rw[r];exact zbq _
  . exact zbu r h.hs
 refine⟨⟨by rw[i];exact h.ld o,s⟩,fun k A t a=>?_⟩
 have n:t∈g.entries.l->0≤t∧t≤(g.ins.l.length:Int):=fun v=>by
  have:=Bh h.hd o (j t v);omega
 unfold aY at a;split at a
 . rename_i w
   have u:k<d.b.l[q].ins.l.length:=by rw[<-i];exact w
   have z:g.ins.l[k]=d.b.l[q].ins.l[k]:=by simp only[m]
   rw[z] at a;have y:=h.hd.gQ o _ (za9 u);have f:t∈bP d.b.l[q].ins.l[k]->0≤t∧t≤(g.ins.l.length:Int):=fun v=>by have:=y.t t v;omega
   split at a
   . exact f a
   . exact(zbL.1 a).elim f n
 . exact n a
theorem fp.fit (h:fp c d of){q:Nat}(i:q<c.b.l.length)(k:q<d.b.l.length)(n:q<of.length):∀g,cZ d (q:Int) g->(bM c.b.l[q].ins.l of[q] g).Ok (d.b.l[q].ah.toNat:Nat) (c.b.l[q].ah.toNat:Nat)∧(bM c.b.l[q].ins.l of[q] g).Pl∧tK g:=fun g e=>by
 have j:g.ins.l=d.b.l[q].ins.l:=by obtain⟨_,o,_⟩:=e;grind
 have p:=(jw h.hd.ok k).1;have m:=(jw h.hc.ok i).1;obtain⟨a,b⟩:=YX h.hc h.hd h.co _ _ _ j e.fw;refine⟨?_,b,h.S4 k e⟩
 grind
theorem fp.rn (h:fp c d of){q:Nat}(a:q<c.b.l.length):c.b.l[q].ah.toNat≤1001:=by
 have:=h.hr _ (za9 a);omega
theorem fp.row (h:fp c d of){q:Nat}(f:q<c.b.l.length)(i:q<d.b.l.length)(e:q<of.length)(p:Nat)(m:p<of[q].length):of[q][p] = -1∨∃n:Nat,∃k:n<c.b.l[q].ins.l.length,of[q][p]=(n:Int)∧(aQ (d.b.l[q].ins.l[p]'(by have:=h.co.ol q i e;omega))).length=(aQ c.b.l[q].ins.l[n]).length:=by
 have g:p<d.b.l[q].ins.l.length:=by have:=h.co.ol q i e;omega
 have j:=h.co.row q f i e p g;rw[ej m] at j;rcases j with⟨r,_⟩|⟨n,k,r,s,_⟩
 . exact .inl r
 . exact .inr ⟨n,k,r,s.usn⟩
theorem fp.uP (h:fp c d of){q:Nat}(a:q<c.b.l.length)(g:q<d.b.l.length)(o:q<of.length):∀i∈d.b.l[q].ins.l,i.l.l.length≤40:=fun i m=>by
 obtain⟨p,j,rfl⟩:=zbo.1 m;rcases h.co.row q a g o p j with⟨_,r⟩|⟨n,t,_,s,_⟩
 . have u := h.hd.gQ g _ (za9 j)
   by_cases e:d.b.l[q].ins.l[p].l.l=[]
   . rw[e];exact zbq _
   . have := u.fl e
     rw[r] at this;cases this
 . rw[s.l];exact h.hl _ (za9 a) _ (za9 t)
theorem cZ.uniq {q:Nat}(a:bU d=0){g g':Gr}(h:cZ d (q:Int) g)(f:cZ d (q:Int) g'):g'=g:=by
 have b:=h.dZ a;have j:=f.dZ a;obtain⟨_,l,m,_⟩:=h;obtain⟨_,n,o,_⟩:=f;have p:=C2 j.inc b.inc fun x=>by rw[j.mem,b.mem]
 obtain⟨i,r,⟨e,_⟩⟩:=g;obtain⟨s,t,⟨k,_⟩⟩:=g'
 grind
def pB (c d:Cd)(a:List (List Int))(q:Nat):Prop:=∀(e:q<c.b.l.length) (h:q<d.b.l.length) (f:q<a.length),∃g X,cZ d (q:Int) g∧gk (bM c.b.l[q].ins.l a[q] g) X∧∀p,lR c.b.l[q].ins.l d.b.l[q].ins.l a[q] X p
theorem fp.holds (h:fp c d of){q:Nat}(j:q<c.b.l.length)(a:q<d.b.l.length)(m:q<of.length):af 62 [.agg (c.cells++d.cells++[.ak 1 (of.map fun l=>[aT l])]),i64 q] (fun k=>∃g X,k = .ret (.ak 3 (X.map Hd.row))∧cZ d q g∧gk (bM c.b.l[q].ins.l of[q] g) X):=
 Th c d _ q h.hs a _ _ _ _ (h.rn _) (h.fit _ a _) (h.co.ol q _ _) fun p o=>(h.row _ a _ p _).imp id fun ⟨n,i,e,_⟩=>⟨n,i,e⟩
theorem fp.shown (h:fp c d of)(u:bU d=0){q:Nat}(a:q<c.b.l.length)(e:q<d.b.l.length)(f:q<of.length):af 60 [.agg (c.cells++d.cells++[.ak 1 (of.map fun l=>[aT l])]),i64 q] (jV (pB c d of q)):=by
 refine(YO c d of q e a f (h.ld e) (h.holds a e f) (fun g X k o=>?_) (h.uP a e f) (h.hl _ (za9 a)) (h.co.ol q e f) (h.row a e f)).mono ?_
 . obtain ⟨v, t, _⟩ := h.fit a e f g k
   obtain⟨⟨j,rfl⟩,_⟩:=o;have r:g.ins.l=d.b.l[q].ins.l:=by obtain⟨_,A,_⟩:=k;simp only[A,zbt]
   refine⟨by rw[uN,kT,r],fun p=>((xw v t).get p).kd (h.rn a)⟩
 . rintro _ ⟨g, X, b, rfl, k, o, z⟩
   have n:pB c d of q↔∀p,lR c.b.l[q].ins.l d.b.l[q].ins.l of[q] X p:=by
    constructor
    . intro m
      obtain⟨C,B,s,w,x⟩:=m a e f;obtain rfl:=cZ.uniq u k s;obtain rfl:=gk.uniq o w;exact x
    . exact fun m _ _ _=>⟨g,X,k,o,m⟩
   cases b
   . exact .inr ⟨rfl,fun m=>by have:=z.2 (n.1 m);cases this⟩
   . exact .inl ⟨rfl,n.2 (z.1 rfl)⟩
end
theorem Qd (c d:Cd)(k:Int)(i:List (List Int))(f:bK c.b.l≤100000)(e:bK d.b.l≤100000)(m:4≤k∧k≤16)(j:bU c=0)(g:bU d≠0):af 15 [c.av,i64 k,d.av,.agg [.ak 1 (i.map cx)]] (fun n=>n = .ret (i64 (bU d))):=by
 refine zw func15 ?_;refine zg ?_
 repeat' ((first|(refine zp ?_ ?_<;>first|exact⟨⟩|intro h)|(refine DC.pure rfl (iW c f) ?_;rintro _ rfl)|(refine DC.pure rfl (iW d e) ?_;rintro _ rfl)|(refine DC.pure rfl (Ci k m) ?_;rintro _ rfl)|refine zd func30 ?_|refine zd func57 ?_)<;>refine zg ?_)
 all_goals exact⟨⟩
theorem FI (c d:Cd)(k:Int)(g:List (List Int))(a:fp c d g)(s:bK c.b.l≤100000)(G:4≤k∧k≤16)(B:bU c=0)(n:bU d=0)(z:q9 k d):af 15 [c.av,i64 k,d.av,.agg [.ak 1 (g.map cx)]] (fun A=>∃e,A = .ret (i64 e)∧(e=0↔∀q,pB c d g q)):=by
 have t:bK d.b.l≤100000:=zbu a.hs aa;have D:=a.co.lc;have E:=a.co.lo;have F:=a.nb;have r:∀l∈g,l.length≤2000:=fun l H=>by
  obtain⟨q,p,rfl⟩:=zbo.1 H;have f:q<d.b.l.length:=aa;rw[a.co.ol q f p];exact a.ld f
 refine zw func15 ?_;refine zg ?_
 repeat' ((first|(refine zp ?_ ?_<;>first|exact⟨⟩|intro h)|(refine DC.pure rfl (iW c s) ?_;rintro _ rfl)|(refine DC.pure rfl (iW d t) ?_;rintro _ rfl)|(refine DC.pure rfl (Ci k G) ?_;rintro _ rfl)|(refine DC.pure rfl (R9 d k z) ?_;rintro _ rfl)|(refine DC.pure rfl (Gf c d g a.co a.hc a.hd r aa) ?_;rintro _ rfl)|refine zd func30 ?_|refine zd func57 ?_)<;>refine zg ?_)
 refine DW.aO aC aD [8,11,38] [] 0 (fun x:{q:Nat // q≤c.b.l.length∧∀j,j<q->pB c d g j}=>[(39,i64 x.1)]) (fun _=>[]) [] (fun x=>c.b.l.length - x.1) (⟨0,zbq _,fun j h=>absurd h (zbK _)⟩) ?_
 refine zl fun x=>?_
 obtain⟨q,C,o⟩:=x;dsimp only;rcases zbI q c.b.l.length with p|p
 . have f : q < d.b.l.length := aa
   have u:q<g.length:=aa;refine zg ?_
   repeat' ((first|(refine zp ?_ ?_<;>first|exact⟨⟩|intro h)|(refine DC.pure rfl (a.shown n p f u) ?_;rintro _ (⟨rfl,m⟩|⟨rfl,m⟩)))<;>refine zg ?_)
   . have v:∀j,j<q+1->pB c d g j:=fun j w=>by
      by_cases e:j=q
      . rw[e];exact m
      . exact o j aa
     exact zi ⟨q+1,p,v⟩
   . exact⟨_,rfl,⟨fun e=>(by cases e),fun e=>absurd (e q) m⟩⟩
 . refine zg ?_
   repeat' (((refine zp ?_ ?_<;>first|exact⟨⟩|intro h))<;>refine zg ?_)
   exact ⟨_, rfl, ⟨fun _ j => (by
    rcases zbI j q with w|w
    . exact o j w
    . exact fun y=>absurd y aa),fun _=>rfl⟩⟩
end Go.Ago
end
namespace Go.Ago
open Go.Proofs List Nat Tryz
theorem UN {x y:AV}{pre:List (List AV)}{i:Nat}{e a:List AV}(c:(pre++[[x]])[i]? = some e)(b:(pre++[[y]])[i]? = some a):a=e∨(e=[x]∧a=[y]):=by
 grind
theorem Hg {nm:Nat}{o:an}{x y:AV}{pre es c:List (List AV)}(m:es=pre++[[x]])(l:c=pre++[[y]])(h:fC nm o x y):iu nm o (.arr 1 es) (.arr 1 c):=by
 subst m l;refine .inr ⟨1,_,_,rfl,rfl,ag,fun i f d=>?_⟩
 have g:i<(pre++[[x]]).length:=by have:=(zbn.1 d).1;simpa using this
 refine⟨_,zbf g,?_⟩;rcases UN (zbf g) d with e|⟨n,rfl⟩
 . rw [e]
   exact⟨rfl,fun j b a=>⟨b,a,.inl rfl⟩⟩
 . rw [n]
   refine⟨rfl,fun j b a=>?_⟩
   cases j<;>grind
theorem X_ {r a:List Int}{acc:List (List Int)}:cx a::(acc++[r]).map cx=(cx a::acc.map cx)++[[aT r]]:=ag
theorem RP {α:Type}{f:α->List AV}{a:α}{acc:List α}{x:AV}{n:Nat}(h:n=acc.length+1):List.take n (List.drop 0 (f a::acc.map f))++[[x]]=(f a::acc.map f)++[[x]]:=by
 rw[zcV,zbj (by simp[h])]
end Go.Ago
