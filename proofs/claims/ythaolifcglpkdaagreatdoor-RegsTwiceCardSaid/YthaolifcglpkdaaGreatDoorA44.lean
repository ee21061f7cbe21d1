/-
  Part A44: lemmas, each with its own conditions.
-/
import Derived.Test.YthaolifcglpkdaaGreatDoorA40
import Derived.Test.YthaolifcglpkdaaGreatDoorA43
set_option maxRecDepth 100000
set_option maxHeartbeats 0
set_option linter.all false
section
namespace Go.Ago
open Go.Proofs List Nat Tryz
attribute [local irreducible] bN bM aZ bK b_ wr bp bL comp DC DP DW DV
attribute [local irreducible] dJ ct aL cH dP dI ec dX cB dM dR bV bn bB eA eL bC
theorem V0 (l:List Ins)(h:l.length≤100000):af 45 [i64 ((l.map Ins.cells).length:Int)] (fun a=>a = .ret (aU (bC l.length))):=by
 rw[length_map];exact IT _ h
theorem V3 (n:Int)(h:0≤n∧n≤100000):af 45 [i64 n] (fun a=>a = .ret (aU (bC n.toNat))):=by
 obtain⟨k,rfl⟩:=Int.eq_ofNat_of_zero_le h.1;exact IT k aa
theorem zag (c:Cd)(q:Nat)(d:Bd)(f:q<c.b.l.length)(a:c.b.l.length≤100):af 44 [c.av,i64 q,d.av] (fun e=>e = .ret (kS c q d).av):=zaf c _ _ ⟨aa,aa⟩ a
theorem Sr (c:Cd)(q:Nat)(d:bV c.b.l≤100000)(e:q<c.b.l.length):af 33 [c.av,i64 q] (fun a=>∃g:Gr,a = .ret g.av∧dQ c (q:Int) g):=He c q d ⟨aa,aa⟩
theorem YJ {H:ai}{n:Nat}{cs a:List AV}(h:aM (snap H n) cs=some a):snap H (n+1) (.ao cs)=some (.ao a):=by simp[snap,h]
theorem HK (k:Int)(c:4≤k∧k≤16):af 41 [i64 k] (fun b=>b = .ret (.bool true)):=zw func41 W
theorem Zo {bs:List Bd}{m:Nat}:eL bs m≤bV bs:=by
 unfold eL bV
 induction bs generalizing m with
 | nil=>simp
 | cons b bs d =>
   cases m<;>grind
theorem bJ.last {c d:Cd}{k:Int}{q:Nat}{a:List (List Int)}(h:∃T,bJ c k q d a T)(e:q=c.b.l.length):∃T,bJ c k c.b.l.length d a T:=e ▸ h
theorem Ti {bs:List Bd}{b:Bd}(h:b∈bs):b.ins.l.length≤bV bs:=mf h
section
variable {c d:Cd} {k:Int} {q:Nat} {of:List (List Int)}
theorem bJ.gv (h:∃T,bJ c k q d of T)(f:cE c)(e:4≤k∧k≤16)(i:fz c 500 60)(j:q<c.b.l.length){g:Gr}(a:dQ d (q:Int) g):gz g:=by
 obtain⟨T,h⟩:=h;exact(h.graph f e i j a).1
theorem bJ.gd (h:∃T,bJ c k q d of T)(a:cE c)(m:4≤k∧k≤16)(n:fz c 500 60)(o:q<c.b.l.length){g:Gr}(j:dQ d (q:Int) g):∀i∈g.ins.l,i.d = -1∨hasB i.op 68=true:=fun i r=>by
 obtain⟨T,h⟩:=h;rw[(h.graph a m n o j).2.1] at *;obtain⟨y,p,rfl⟩:=mem_map.1 r;obtain⟨s,_,t,_⟩:=@jJ T y;have f:=a.jv _ y p;rw[s,t];exact f.d.imp id fun e=>f.fd e.1
theorem bJ.Sl (h:∃T,bJ c k q d of T)(f:cE c)(i:4≤k∧k≤16)(e:fz c 500 60)(j:q<c.b.l.length){g:Gr}(m:dQ d (q:Int) g){S:List (List aA)}{W:Nat->List Int}{B:List Ins}(a:j2 g S k W B):B.length≤1000:=by
 have:=(bJ.gv h f i e j m).eU.1;have:=a.len;omega
theorem bJ.YR (h:∃T,bJ c k q d of T)(s:cE c)(w:4≤k∧k≤16)(m:fz c 500 60)(x:q<c.b.l.length){g:Gr}(z:dQ d (q:Int) g):tR d k q g.aj.toNat:=by
 obtain⟨T,h⟩:=h;have D:∀b∈c.b.l,b.aj≤100:=fun b f=>by have:=m.aj b f;omega
 have a:=h.code s w D m.sum;obtain⟨o,Q,L,_⟩:=h.graph s w m x z;obtain⟨O,H,E,_⟩:=z;have n:q<d.b.l.length:=by rw[h.len];exact x
 have u:g.ins=d.b.l[q].ins:=by simpa using H
 have F:g.aj=d.b.l[q].aj:=by simpa using E
 have y:=h.sum s;have I:=m.sum;have r:=o.aj;have e:((g.aj.toNat:Nat):Int)=g.aj:=aa;refine⟨n,by rw[h.len];have:=m.nb;omega,aa,aa,by rw[e,F],?_,?_,?_,?_,?_,?_⟩
 . rw[<-u];exact o.eU.1
 . rw[e,<-u];exact o.ins
 . rw[<-u];exact o.h_
 . intro b f i t v C
   obtain⟨j,G,rfl⟩:=mem_iff_getElem.1 f;obtain⟨M,N,J,A⟩:=kD a.ok G t v;have K:i.p.toNat=q:=aa;simp only[K] at A;exact⟨J,A⟩
 . intro b f
   have:=Ti f;omega
 . intro i t B
   exact((a.jv n i t).mv B).1
theorem bJ.Zm (h:∃T,bJ c k q d of T)(e:cE c)(a:fz c 500 60):bV d.b.l≤2000:=by
 obtain⟨T,h⟩:=h;have:=h.sum e;have:=a.sum;omega
theorem bJ.CE (h:∃T,bJ c k q d of T):of.length=q∧q≤c.b.l.length∧d.b.l.length=c.b.l.length:=by
 obtain⟨T,h⟩:=h;exact⟨h.gT,h.le,h.len⟩
theorem bJ.K9 (h:∃T,bJ c k q d of T)(n:cE c)(g:4≤k∧k≤16)(i:q<c.b.l.length){j:q<d.b.l.length}{e:Cd}{a:List Int}(f:mR d k q d.b.l[q].ins.l d.b.l[q].aj e a):∃T,bJ c k (q+1) e (of++[a]) T:=by
 obtain⟨T,h⟩:=h;exact⟨_,h.K_ n g i _ f⟩
theorem bJ.G2 (h:∃T,bJ c k q d of T)(f:cE c)(i:4≤k∧k≤16)(j:fz c 500 60)(m:q<c.b.l.length){g:Gr}(n:dQ d (q:Int) g){a:Bd}{S:List (List aA)}{W:Nat->List Int}(p:a.aj=k)(r:fy g S)(e:j2 g S k W a.ins.l):∃T,bJ c k (q+1) (kS d q a) (of++[bC a.ins.l.length]) T:=by
 obtain⟨T,h⟩:=h;exact⟨_,h.fits f i j m n p r e⟩
end
theorem NR (c:Cd)(k:Int)(e:fz c 500 60)(p:4≤k∧k≤16)(N:cB c=0):af 11 [c.av,i64 k] (fun ae=>∃(d:Cd) (J:List (List Int)) (v:AV),ae = .ret (.ao [d.av,.agg [v],i64 0])∧Told v (.ak 1 (J.map db))∧∃T,bJ c k c.b.l.length d J T):=by
 have s:cE c:=(wu c fun m=>Nat.le_trans uS (by have:=e.sum;omega)).1 N
 have hnb:=e.nb;have t:∀(j:Nat) (h:j<c.b.l.length),c.b.l[j].aj≤60:=fun j h=>e.aj _ (getElem_mem h)
 have K:∀(j:Nat) (h:j<c.b.l.length),c.b.l[j].ins.l.length≤500:=fun j h=>Nat.le_trans (mf (getElem_mem h)) e.sum
 have B:∀m,eL c.b.l m≤500:=fun m=>Nat.le_trans Zo e.sum
 have Z:=@Lr c.b.l;refine zw func11 ?_;refine zg ?_
 repeat' ((first|(refine zp ?_ ?_<;>first|exact⟨⟩|intro h)|(refine DC.pure rfl (pO c (by have:=e.sum;omega)) ?_;rintro _ rfl)|(refine DC.pure rfl (HK k p) ?_;rintro _ rfl)|refine zd func30 ?_|refine zd func40 ?_)<;>refine zg ?_)
 refine DW.aO aC aD [2,3,4,5,6,27,28] [] 0 (fun x:{m:Nat // m≤c.b.l.length}=>[(29,i64 x.1),(8,i64 (eL c.b.l x.1))]) (fun _=>[]) [] (fun x=>c.b.l.length+1 - x.1) (⟨0,zero_le _⟩) ?_
 refine zl fun x=>?_
 rcases x with⟨m,hmb⟩
 have Q:=B m;have U:=t m;refine zk ?_
 repeat' ((first|refine ay.mk _ (bI (l:=c.b.l) (i:=m) aa) ?_|(refine zb ?_ ?_<;>(intro h)<;>try (exfalso;(first|omega|(have X:=t m aa;omega)))))<;>refine zk ?_)
 . have G : m < c.b.l.length := aa
   have h1:=DD G;have h2:=B (m+1);have h3:=K m G;have R:wr .i64 ((eL c.b.l m:Int)+((c.b.l[m]).ins.l.length:Int))=(eL c.b.l (m+1):Int):=by rw[aF aa aa];omega
   refine⟨⟨m+1,G⟩,?_,rfl,bG⟩
   conv=>whnf
   repeat' first|exact True.intro|rfl|apply And.intro|(refine cw ?_ ?_ ?_<;>(try dsimp only)<;>omega)|exact congrArg (AV.int .i64) (by rw[length_map];exact R)
 refine DW.aO aC aD [3,4,5,6,11,12,52] [36,37] 4000 (fun x:{x:(Nat×Cd)×List (List Int) // ∃T,bJ c k x.1.1 x.1.2 x.2 T}=>[(53,i64 x.1.1.1)]) (fun x=>(36,.arr 7 [x.1.1.2.cells])::(37,.arr 1 [[fc 2000 1 (x.1.2.map db)]])::e_ 2000 1 (x.1.2.map db)) [(2000,.cell 37 0)] (fun x=>c.b.l.length+1 - x.1.1.1) (⟨((0,c),[]),[],bJ.start c k⟩) ?_
 conv=>whnf
 refine⟨?_,fun x=>?_⟩
 . conv => whnf
   (repeat' first|exact True.intro|apply And.intro|rfl)
 rcases x with⟨⟨⟨q,d⟩,J⟩,M⟩
 have a:∃T,bJ c k q d J T:=M;have Y:=(bJ.CE a).2.1;have hdl:=(bJ.CE a).2.2;have I:=(bJ.CE a).1;have D:=bJ.Zm a s e;have P:∀(j:Nat) (h:j<d.b.l.length),d.b.l[j].ins.l.length≤2000:=fun j h=>Nat.le_trans (mf (getElem_mem h)) D
 rcases J with _|⟨o,H⟩
 all_goals
  try simp only[length_cons,length_nil] at I
  refine zg ?_
  repeat' ((first|refine zf ?_|(refine Rq.mk (di 24 2000 ag rfl rfl gW ab) ?_)|(refine zp ?_ ?_<;>intro h)|(refine DC.pure rfl (Sr d q aa aa) ?_;rintro _ ⟨g,rfl,C⟩)|(refine DC.pure rfl (UI g (bJ.gv a s p e aa C) k ⟨aa,aa⟩) ?_;rintro _ ⟨v,b,rfl,⟨rfl,rfl⟩|⟨rfl,u,S,V,rfl,E,F,y⟩⟩)|(refine DC.pure rfl (Qi g (bJ.gv a s p e aa C) (bJ.gd a s p e aa C) k ⟨aa,aa⟩) ?_;rintro _ ⟨v2,b2,rfl,⟨rfl,rfl⟩|⟨rfl,u,S,V,rfl,E,F,y⟩⟩)|(refine DC.pure rfl (zag d q u aa aa) ?_;rintro _ rfl)|(refine zh rfl (V0 u.ins.l (by have:=bJ.Sl a s p e aa C y;omega)) ?_;rintro _ rfl)|(refine zh rfl (V3 g.aj (by have:=(bJ.gv a s p e aa C).aj;omega)) ?_;rintro _ rfl)|(refine zh rfl (YT d k q g.aj.toNat (bJ.YR a s p e aa C)) ?_;rintro _ ⟨w,z,rfl,L⟩))<;>refine zg ?_)
 all_goals first
  | (refine ⟨⟨((q + 1, w), [z]), (show ∃ T, bJ c k (q + 1) w ([z]) T from bJ.K9 a s p aa L)⟩, ?_, rfl, bG⟩
     conv=>whnf
     (exact nV))
  | (refine ⟨⟨((q + 1, kS d q u), [bC u.ins.l.length]), (show ∃ T, bJ c k (q + 1) (kS d q u) ([bC u.ins.l.length]) T from bJ.G2 a s p e aa C E F y)⟩, ?_, rfl, bG⟩
     conv=>whnf
     (exact nV))
  | (refine ⟨⟨((q + 1, w), o :: (H ++ [z])), (show ∃ T, bJ c k (q + 1) w (o :: (H ++ [z])) T from bJ.K9 a s p aa L)⟩, ?_, rfl, bG⟩
     conv=>whnf
     (exact nV))
  | (refine ⟨⟨((q + 1, kS d q u), o :: (H ++ [bC u.ins.l.length])), (show ∃ T, bJ c k (q + 1) (kS d q u) (o :: (H ++ [bC u.ins.l.length])) T from bJ.G2 a s p e aa C E F y)⟩, ?_, rfl, bG⟩
     conv=>whnf
     (exact nV))
  | exact⟨d,[],.ah,rfl,Told.nil,(bJ.last a aa)⟩
  | (generalize O : snap _ _ _ = rr
     obtain rfl:=O.symm.trans (YJ (n:=19) (aJ rfl (aJ (nR (n:=18) (aJ (gu (f:=db) (l:=o::H) (n:=17) (fun _=>rfl) rfl rfl ag) rfl)) (aJ rfl rfl))))
     exact⟨d,o::H,_,rfl,Told.r,(bJ.last a aa)⟩)
end Go.Ago
end
section
namespace Go.Ago
open Go.Proofs List Nat Tryz
attribute [local irreducible] bN bM aZ bK b_ wr bp bL comp DC DP DW DV
attribute [local irreducible] cj ej bT aT bQ
attribute [local irreducible] dJ ct aL cH dP dI ec dX cB dM dR bV bn bB eA eL
theorem Hp {c c':Prop}[Decidable c][Decidable c']{a b:Int}(h:c↔c'):(if c then [a] else []).length=(if c' then [b] else []).length:=by
 grind
theorem SimI.Z2 {x y:Ins}(h:SimI x y):(aT y).length=(aT x).length:=by
 have c:=h.op;have e:=h.a;have f:=h.b;have g:(if hasB y.op 65=true∧y.a≠-1 then [y.a] else []).length=(if hasB x.op 65=true∧x.a≠-1 then [x.a] else []).length:=Hp (by grind)
 have i:(if hasB y.op 66=true∧y.b≠-1 then [y.b] else []).length=(if hasB x.op 66=true∧x.b≠-1 then [x.b] else []).length:=Hp (by grind)
 have d:(if hasB y.op 76=true then y.l.l else []).length=(if hasB x.op 76=true then x.l.l else []).length:=by
  rw[c];split
  . exact h.l
  . rfl
 unfold aT
 grind
structure gg (c d:Cd)(of:List (List Int)):Prop where
 hc:cE c
 hd:cE d
 co:kX c d of
 hs:bV d.b.l≤2000
 hr:∀b∈c.b.l,b.aj≤1000
 hl:∀b∈c.b.l,∀i∈b.ins.l,i.l.l.length≤40
 nb:c.b.l.length≤1000
section
variable {c d:Cd} {of:List (List Int)}
theorem gg.ld (h:gg c d of){q:Nat}(a:q<d.b.l.length):d.b.l[q].ins.l.length≤2000:=Nat.le_trans (mf (ag)) h.hs
theorem gg.Su (h:gg c d of){q:Nat}(o:q<d.b.l.length){g:Gr}(p:dQ d (q:Int) g):tI g:=by
 have j:=p.fe;have m:g.ins.l=d.b.l[q].ins.l:=by obtain⟨_,x,_⟩:=p;simp only[x,Int.toNat_natCast]
 have i:g.ins.l.length=d.b.l[q].ins.l.length:=by rw[m]
 have s:g.entries.l.length≤2000:=by
  obtain⟨_,_,_,e,n⟩:=p;unfold eA at n;rcases n with⟨_,_,r⟩|⟨_,_,_,r⟩|⟨_,_,_,r,_⟩
  . rw[r];exact zero_le _
  . rw[r];exact zero_le _
  . exact Nat.le_trans r h.hs
 refine⟨⟨by rw[i];exact h.ld o,s⟩,fun k A t a=>?_⟩
 have n:t∈g.entries.l->0≤t∧t≤(g.ins.l.length:Int):=fun v=>by
  have:=A6 h.hd o (j t v);omega
 unfold aX at a;split at a
 . rename_i w
   have u:k<d.b.l[q].ins.l.length:=by rw[<-i];exact w
   have z:g.ins.l[k]=d.b.l[q].ins.l[k]:=by simp only[m]
   rw[z] at a;have y:=h.hd.jv o _ (getElem_mem u);have f:t∈bT d.b.l[q].ins.l[k]->0≤t∧t≤(g.ins.l.length:Int):=fun v=>by have:=y.t t v;omega
   split at a
   . exact f a
   . exact(mem_append.1 a).elim f n
 . exact n a
theorem gg.fit (h:gg c d of){q:Nat}(i:q<c.b.l.length)(k:q<d.b.l.length)(n:q<of.length):∀g,dQ d (q:Int) g->(bQ c.b.l[q].ins.l of[q] g).Ok (d.b.l[q].aj.toNat:Nat) (c.b.l[q].aj.toNat:Nat)∧(bQ c.b.l[q].ins.l of[q] g).Pl∧tI g:=fun g e=>by
 have j:g.ins.l=d.b.l[q].ins.l:=by obtain⟨_,o,_⟩:=e;grind
 have p:=(kE h.hd.ok k).1;have m:=(kE h.hc.ok i).1;obtain⟨a,b⟩:=Yq h.hc h.hd h.co _ _ _ j e.fe;refine⟨?_,b,h.Su k e⟩
 grind
theorem gg.rn (h:gg c d of){q:Nat}(a:q<c.b.l.length):c.b.l[q].aj.toNat≤1001:=by
 have:=h.hr _ (getElem_mem a);omega
theorem gg.row (h:gg c d of){q:Nat}(f:q<c.b.l.length)(i:q<d.b.l.length)(e:q<of.length)(p:Nat)(m:p<of[q].length):of[q][p] = -1∨∃n:Nat,∃k:n<c.b.l[q].ins.l.length,of[q][p]=(n:Int)∧(aT (d.b.l[q].ins.l[p]'(by have:=h.co.ol q i e;omega))).length=(aT c.b.l[q].ins.l[n]).length:=by
 have g:p<d.b.l[q].ins.l.length:=by have:=h.co.ol q i e;omega
 have j:=h.co.row q f i e p g;rw[dL m] at j;rcases j with⟨r,_⟩|⟨n,k,r,s,_⟩
 . exact .inl r
 . exact .inr ⟨n,k,r,s.Z2⟩
theorem gg.HV (h:gg c d of){q:Nat}(a:q<c.b.l.length)(g:q<d.b.l.length)(o:q<of.length):∀i∈d.b.l[q].ins.l,i.l.l.length≤40:=fun i m=>by
 obtain⟨p,j,rfl⟩:=mem_iff_getElem.1 m;rcases h.co.row q a g o p j with⟨_,r⟩|⟨n,t,_,s,_⟩
 . have u := h.hd.jv g _ (getElem_mem j)
   by_cases e:d.b.l[q].ins.l[p].l.l=[]
   . rw[e];exact zero_le _
   . have := u.fl e
     rw[r] at this;cases this
 . rw[s.l];exact h.hl _ (getElem_mem a) _ (getElem_mem t)
theorem dQ.uniq {q:Nat}(a:cB d=0){g g':Gr}(h:dQ d (q:Int) g)(f:dQ d (q:Int) g'):g'=g:=by
 have b:=h.ef a;have j:=f.ef a;obtain⟨_,l,m,_⟩:=h;obtain⟨_,n,o,_⟩:=f;have p:=Jh j.inc b.inc fun x=>by rw[j.mem,b.mem]
 obtain⟨i,r,⟨e,_⟩⟩:=g;obtain⟨s,t,⟨k,_⟩⟩:=g'
 grind
def rv (c d:Cd)(a:List (List Int))(q:Nat):Prop:=∀(e:q<c.b.l.length) (h:q<d.b.l.length) (f:q<a.length),∃g X,dQ d (q:Int) g∧j1 (bQ c.b.l[q].ins.l a[q] g) X∧∀p,lQ c.b.l[q].ins.l d.b.l[q].ins.l a[q] X p
theorem gg.holds (h:gg c d of){q:Nat}(j:q<c.b.l.length)(a:q<d.b.l.length)(m:q<of.length):af 62 [.agg (c.cells++d.cells++[.ak 1 (of.map fun l=>[aU l])]),i64 q] (fun k=>∃g X,k = .ret (.ak 3 (X.map Hd.row))∧dQ d q g∧j1 (bQ c.b.l[q].ins.l of[q] g) X):=
 SK c d _ q h.hs a _ _ _ _ (h.rn _) (h.fit _ a _) (h.co.ol q _ _) fun p o=>(h.row _ a _ p _).imp id fun ⟨n,i,e,_⟩=>⟨n,i,e⟩
theorem gg.shown (h:gg c d of)(u:cB d=0){q:Nat}(a:q<c.b.l.length)(e:q<d.b.l.length)(f:q<of.length):af 60 [.agg (c.cells++d.cells++[.ak 1 (of.map fun l=>[aU l])]),i64 q] (kQ (rv c d of q)):=by
 refine(Yk c d of q e a f (h.ld e) (h.holds a e f) (fun g X k o=>?_) (h.HV a e f) (h.hl _ (getElem_mem a)) (h.co.ol q e f) (h.row a e f)).mono ?_
 . obtain ⟨v, t, _⟩ := h.fit a e f g k
   obtain⟨⟨j,rfl⟩,_⟩:=o;have r:g.ins.l=d.b.l[q].ins.l:=by obtain⟨_,A,_⟩:=k;simp only[A,Int.toNat_natCast]
   refine⟨by rw[xl,iL,r],fun p=>((B4 v t).get p).kH (h.rn a)⟩
 . rintro _ ⟨g, X, b, rfl, k, o, z⟩
   have n:rv c d of q↔∀p,lQ c.b.l[q].ins.l d.b.l[q].ins.l of[q] X p:=by
    constructor
    . intro m
      obtain⟨C,B,s,w,x⟩:=m a e f;obtain rfl:=dQ.uniq u k s;obtain rfl:=j1.uniq o w;exact x
    . exact fun m _ _ _=>⟨g,X,k,o,m⟩
   cases b
   . exact .inr ⟨rfl,fun m=>by have:=z.2 (n.1 m);cases this⟩
   . exact .inl ⟨rfl,n.2 (z.1 rfl)⟩
end
theorem PK (c d:Cd)(k:Int)(g:List (List Int))(a:gg c d g)(s:bV c.b.l≤100000)(G:4≤k∧k≤16)(B:cB c=0)(n:cB d=0)(z:zK k d):af 15 [c.av,i64 k,d.av,.agg [.ak 1 (g.map db)]] (fun A=>∃e,A = .ret (i64 e)∧(e=0↔∀q,rv c d g q)):=by
 have t:bV d.b.l≤100000:=Nat.le_trans a.hs aa;have D:=a.co.lc;have E:=a.co.lo;have F:=a.nb;have r:∀l∈g,l.length≤2000:=fun l H=>by
  obtain⟨q,p,rfl⟩:=mem_iff_getElem.1 H;have f:q<d.b.l.length:=aa;rw[a.co.ol q f p];exact a.ld f
 refine zw func15 ?_;refine zg ?_
 repeat' ((first|(refine zp ?_ ?_<;>first|exact⟨⟩|intro h)|(refine DC.pure rfl (pO c s) ?_;rintro _ rfl)|(refine DC.pure rfl (pO d t) ?_;rintro _ rfl)|(refine DC.pure rfl (HK k G) ?_;rintro _ rfl)|(refine DC.pure rfl (Ry d k z) ?_;rintro _ rfl)|(refine DC.pure rfl (Qu c d g a.co a.hc a.hd r aa) ?_;rintro _ rfl)|refine zd func30 ?_|refine zd func57 ?_)<;>refine zg ?_)
 refine DW.aO aC aD [8,11,38] [] 0 (fun x:{q:Nat // q≤c.b.l.length∧∀j,j<q->rv c d g j}=>[(39,i64 x.1)]) (fun _=>[]) [] (fun x=>c.b.l.length - x.1) (⟨0,zero_le _,fun j h=>absurd h (not_lt_zero _)⟩) ?_
 refine zl fun x=>?_
 obtain⟨q,C,o⟩:=x;dsimp only;rcases Nat.lt_or_ge q c.b.l.length with p|p
 . have f : q < d.b.l.length := aa
   have u:q<g.length:=aa;refine zg ?_
   repeat' ((first|(refine zp ?_ ?_<;>first|exact⟨⟩|intro h)|(refine DC.pure rfl (a.shown n p f u) ?_;rintro _ (⟨rfl,m⟩|⟨rfl,m⟩)))<;>refine zg ?_)
   . have v:∀j,j<q+1->rv c d g j:=fun j w=>by
      by_cases e:j=q
      . rw[e];exact m
      . exact o j aa
     exact zi ⟨q+1,p,v⟩
   . exact⟨_,rfl,⟨fun e=>(by cases e),fun e=>absurd (e q) m⟩⟩
 . refine zg ?_
   repeat' (((refine zp ?_ ?_<;>first|exact⟨⟩|intro h))<;>refine zg ?_)
   exact ⟨_, rfl, ⟨fun _ j => (by
    rcases Nat.lt_or_ge j q with w|w
    . exact o j w
    . exact fun y=>absurd y aa),fun _=>rfl⟩⟩
end Go.Ago
end
namespace Go.Ago
open Go.Proofs List Nat Tryz
theorem HX {x y:AV}{pre:List (List AV)}{i:Nat}{e a:List AV}(c:(pre++[[x]])[i]? = some e)(b:(pre++[[y]])[i]? = some a):a=e∨(e=[x]∧a=[y]):=by
 grind
theorem M8 {x y:AV}{pre es fs:List (List AV)}(he:es=pre++[[x]])(hf:fs=pre++[[y]])(h:Told x y):pH (.arr 1 es) (.arr 1 fs):=by
 subst he hf;refine .inr ⟨1,_,_,rfl,rfl,ag,fun i e e' h1 h2=>?_⟩
 rcases HX h1 h2 with rfl|⟨rfl,rfl⟩
 . exact⟨rfl,fun j a b ha hb=>by rw[ha] at hb;cases hb;exact Told.r⟩
 . grind
theorem GZ {nm:Nat}{o:an}{x y:AV}{pre es c:List (List AV)}(m:es=pre++[[x]])(l:c=pre++[[y]])(h:gJ nm o x y):j3 nm o (.arr 1 es) (.arr 1 c):=by
 subst m l;refine .inr ⟨1,_,_,rfl,rfl,ag,fun i f d=>?_⟩
 have g:i<(pre++[[x]]).length:=by have:=(List.getElem?_eq_some_iff.1 d).1;simpa using this
 refine⟨_,getElem?_eq_getElem g,?_⟩;rcases HX (getElem?_eq_getElem g) d with e|⟨n,rfl⟩
 . rw [e]
   exact⟨rfl,fun j b a=>⟨b,a,.inl rfl⟩⟩
 . rw [n]
   refine⟨rfl,fun j b a=>?_⟩
   cases j<;>grind
theorem Kd {r a:List Int}{acc:List (List Int)}:db a::(acc++[r]).map db=(db a::acc.map db)++[[aU r]]:=ag
theorem Gm {α:Type}{f:α->List AV}{a:α}{acc:List α}{x:AV}{n:Nat}(h:n=acc.length+1):List.take n (List.drop 0 (f a::acc.map f))++[[x]]=(f a::acc.map f)++[[x]]:=by
 rw[drop_zero,take_of_length_le (by simp[h])]
end Go.Ago
section
namespace Go.Ago
open List Nat
theorem DP.ex {P:Program}{E:Env}{f:FuncId}{args:List AV}{Q:AE->Prop}(h:DP P E f args Q):∃ae,Q ae:=by
 obtain⟨ae,_,h⟩:=h;exact⟨ae,h⟩
end Go.Ago
namespace Go.Ago
open Go.Proofs List Nat Tryz
attribute [local irreducible] bN bM aZ bK b_ wr bp bL comp DC DP DW DV
attribute [local irreducible] cj ej bT aT bQ
attribute [local irreducible] dJ ct aL cH dP dI ec dX cB dM dR bV bn bB eA eL
theorem gg.sh {c d:Cd}{of:List (List Int)}(h:gg c d of)(hs:pD c d of):∀q,rv c d of q:=fun q hqc hq ho=>by
 obtain⟨_,g,X,rfl,hg,hX⟩:=(h.holds hqc hq ho).ex;have hgi:g.ins.l=d.b.l[q].ins.l:=by obtain⟨_,g2,_⟩:=hg;simp only[g2,Int.toNat_natCast]
 obtain⟨I,hI⟩:=hs q hqc hq ho;obtain⟨hk,hr⟩:=hI g hgi hg.fe;have hh:=j1.has hk hX;refine⟨g,X,hg,hX,fun p hp n hn mb m l r hl hr'=>?_⟩
 have hp':p<g.ins.l.length:=by rw[hgi];exact hp
 have:=hr p n hp' hn mb;have e:g.ins.l[p]=d.b.l[q].ins.l[p]:=by simp only[hgi]
 rw[e] at this;exact hh p l r (this.2 m l r hl hr')
theorem AB (c d:Cd)(k:Int)(of:List (List Int))(hpr:gg c d of)(hcs:bV c.b.l≤100000)(hk:4≤k∧k≤16)(hck:cB c=0)(hckd:cB d=0)(h:nY c k d of):af 15 [c.av,i64 k,d.av,.agg [.ak 1 (of.map db)]] (fun ae=>ae = .ret (i64 0)):=by
 refine(PK c d k of hpr hcs hk hck hckd h.hf).mono ?_
 rintro _ ⟨e,rfl,he⟩
 rw[he.2 (hpr.sh h.sh)]
structure Em (c:Cd)(k:Int)(d:Cd)(of:List (List Int)):Prop where
 ck:nY c k d of
 ok:cB d=0
 sum:bV d.b.l≤4 * bV c.b.l
 aj:∀b∈d.b.l,b.aj≤60+16
 Xj:∀m:Int,(∀b∈c.b.l,b.aj≤m)->∀b∈d.b.l,b.aj≤k+m
theorem EF (c:Cd)(k:Int)(hsm:fz c 500 60)(hk:4≤k∧k≤16)(hck:cB c=0):af 11 [c.av,i64 k] (fun ae=>∃(d:Cd) (of:List (List Int)),ae = .ret (.ao [d.av,.agg [.ak 1 (of.map db)],i64 0])∧Em c k d of):=by
 have hs:bV c.b.l≤500:=hsm.sum;have hx:cE c:=(wu c fun m=>Nat.le_trans uS aa).1 hck
 refine(NR c k hsm hk hck).told ?_
 rintro _ ⟨d,of,v,rfl,ht,T,h⟩
 have hr:∀b∈c.b.l,b.aj≤100:=fun b hb=>by have:=hsm.aj b hb;omega
 have hrr:∀m:Int,(∀b∈c.b.l,b.aj≤m)->∀b∈d.b.l,b.aj≤k+m:=fun m hm b hb=>by
  obtain⟨j,hj,rfl⟩:=mem_iff_getElem.1 hb;have hjc:j<c.b.l.length:=by rw[<-h.len];exact hj
  have:=(h.aj hx hjc hj aa).2;have:=hm _ (getElem_mem hjc);omega
 refine⟨_,.ao [d.av,.agg [.ak 1 (of.map db)],i64 0],rfl,Told.ao ⟨.r,Told.agg ⟨ht,trivial⟩,.r,trivial⟩,d,of,rfl,⟨h.PZ hx hk hr hs,h.ck hx hk hr hs,h.sum hx,fun b hb=>?_,hrr⟩⟩
 have:=hrr 60 (fun b hb=>hsm.aj b hb) b hb
 omega
theorem fz.pr {c d:Cd}{k:Int}{of:List (List Int)}{ins most:Nat}(hsm:fz c ins most)(hm:most≤1000)(h:nY c k d of)(hs:bV d.b.l≤2000):gg c d of:=
 ⟨h.hc,h.hd,h.co,hs,fun b hb=>by have:=hsm.aj b hb;omega,hsm.h_,by have:=hsm.nb;omega⟩
theorem fz.al {c d:Cd}{k:Int}{of:List (List Int)}(hsm:fz c 120 40)(hk:4≤k∧k≤16)(h:Em c k d of):fz d 500 60:=by
 have hs:=hsm.sum;have h4:=h.sum;have hpr:=hsm.pr aa h.ck aa;have hlc:=h.ck.co.lc;have hlo:=h.ck.co.lo;refine⟨by rw[hlc];exact hsm.nb,fun b hb=>?_,fun b hb i hi=>?_,aa⟩
 . have := h.Xj 40 (fun b hb => hsm.aj b hb) b hb
   omega
 . obtain ⟨q, hq, rfl⟩ := mem_iff_getElem.1 hb
   exact hpr.HV aa hq aa i hi
def pM (O1 O2:List (List Int))(n:Nat):List (List Int):=(List.range n).map fun q=>eT (O1.getD q []) (O2.getD q [])
theorem ON {O1 O2:List (List Int)}{n:Nat}(h1:n<O1.length)(h2:n<O2.length):pM O1 O2 (n+1)=pM O1 O2 n++[eT O1[n] O2[n]]:=by
 unfold pM;rw[range_succ,map_append,map_singleton];simp[getD,h1,h2]
theorem OM {O1 O2:List (List Int)}{n:Nat}:(pM O1 O2 n).length=n:=by simp[pM]
theorem wc {a b:List Int}{p:Nat}(hp:p<b.length)(h:b[p] = -1):(eT a b).take (p+1)=(eT a b).take p++[b[p]]:=by
 rw[<-take_append_getElem (by rw[l4];exact hp)]
 congr 2
 have:=wa (o1:=a) hp;rw[dL (by rw[l4];exact hp),dL hp,h] at this
 rw[this,h];rfl
theorem we {a b:List Int}{p n:Nat}(hp:p<b.length)(h:b[p]=(n:Int))(hn:n<a.length):(eT a b).take (p+1)=(eT a b).take p++[a[n]]:=by
 rw[<-take_append_getElem (by rw[l4];exact hp)]
 congr 2
 have:=wa (o1:=a) hp;rw[dL (by rw[l4];exact hp),dL hp,h,if_pos aa,Int.toNat_natCast,dL hn] at this
 exact this
theorem IB {a b:Int}:bL false a b≤a∧bL false a b≤b∧(bL false a b=a∨bL false a b=b):=by unfold bL;dsimp only;split<;>omega
theorem ZM (c:Cd)(k j:Int)(hsane:af 6 [] (fun ae=>ae = .ret (.bool true)))(hsm:¬fz c 120 40):af 4 [c.av,i64 k,i64 j] (fun ae=>ae = .ret (.bool true)):=by
 have hS:af 7 [c.av,i64 120,i64 40] (fun ae=>ae = .ret (.bool false)):=(vg c 120 40 ab).mono fun _ h=>by
  obtain⟨b,rfl,hb⟩:=h;cases b with
  | false=>rfl
  | true=>exact absurd (hb rfl) hsm
 refine zw func4 ?_;refine zg ?_
 repeat' ((first|(refine zp ?_ ?_<;>first|exact⟨⟩|intro h)|(refine DC.pure rfl (hsane) ?_;rintro _ rfl)|(refine zh rfl (hsane) ?_;rintro _ rfl)|(refine DC.pure rfl (hS) ?_;rintro _ rfl)|(refine zh rfl (hS) ?_;rintro _ rfl)|refine zo ?_)<;>refine zg ?_)
 all_goals first|rfl|exact⟨⟩|exact⟨⟩
theorem ZJ (c:Cd)(k j:Int)(hsane:af 6 [] (fun ae=>ae = .ret (.bool true)))(hsm:fz c 120 40)(hn:¬(cB c=0∧4≤k∧k≤16∧4≤j∧j≤16)):af 4 [c.av,i64 k,i64 j] (fun ae=>ae = .ret (.bool true)):=by
 have hcs:bV c.b.l≤100000:=by have:=hsm.sum;omega
 have hck:=pO c hcs
 generalize cB c=e0 at hck hn
 have h1:=@IB k j;have h2:=@Co k j;refine zw func4 ?_;refine zg ?_
 repeat' ((first|(refine zp ?_ ?_<;>first|exact⟨⟩|intro h)|(refine DC.pure rfl (hsane) ?_;rintro _ rfl)|(refine zh rfl (hsane) ?_;rintro _ rfl)|(refine DC.pure rfl (vg c 120 40 ab) ?_;rintro _ ⟨b,rfl,hb⟩)|(refine zh rfl (vg c 120 40 ab) ?_;rintro _ ⟨b,rfl,hb⟩)|(refine DC.pure rfl (hck) ?_;rintro _ rfl)|(refine zh rfl (hck) ?_;rintro _ rfl)|refine zo ?_)<;>refine zg ?_)
 all_goals first|rfl|exact⟨⟩|exact⟨⟩
theorem ZL (c:Cd)(k j:Int)(hsane:af 6 [] (fun ae=>ae = .ret (.bool true)))(hsm:fz c 120 40)(hck:cB c=0)(hk:4≤k∧k≤16)(hj:4≤j∧j≤16):af 4 [c.av,i64 k,i64 j] (fun ae=>ae = .ret (.bool true)):=by
 have hs:=hsm.sum;have hsm5:fz c 500 60:=⟨hsm.nb,fun b hb=>by have:=hsm.aj b hb;omega,hsm.h_,aa⟩
 have h1:=@IB k j;have h2:=@Co k j;refine zw func4 ?_;refine zg ?_
 repeat' ((first|(refine DC.pure rfl (EF c k hsm5 hk hck) ?_;rintro _ ⟨d,of,rfl,hal⟩;have hsd:=hsm.al hk hal;have hsd4:=hal.sum;have hcd:=hal.ok)|(refine DC.pure rfl (EF d j hsd hj hcd) ?_;rintro _ ⟨x,o2,rfl,hal2⟩;have hsx4:=hal2.sum;have hcx:=hal2.ok)|(refine DC.pure rfl (AB c d k of (hsm.pr aa hal.ck aa) aa hk hck hcd hal.ck) ?_;rintro _ rfl)|(refine DC.pure rfl (AB d x j o2 (hsd.pr aa hal2.ck aa) aa hj hcd hcx hal2.ck) ?_;rintro _ rfl)|(refine zp ?_ ?_<;>first|exact⟨⟩|intro h)|(refine DC.pure rfl (hsane) ?_;rintro _ rfl)|(refine zh rfl (hsane) ?_;rintro _ rfl)|(refine DC.pure rfl (vg c 120 40 ab) ?_;rintro _ ⟨b,rfl,hb⟩)|(refine zh rfl (vg c 120 40 ab) ?_;rintro _ ⟨b,rfl,hb⟩)|(refine DC.pure rfl (pO c aa) ?_;rintro _ rfl)|(refine zh rfl (pO c aa) ?_;rintro _ rfl)|refine zo ?_)<;>refine zg ?_)
 have hlo:=hal.ck.co.lo;have hlo2:=hal2.ck.co.lo;have hld:=hal.ck.co.lc;have hnb:=hsm.nb;have hdx:=hal2.ck.hd;have hrow2:∀(q:Nat) (hq:q<o2.length) (hqo:q<of.length) (p:Nat) (hp:p<o2[q].length),o2[q][p] = -1∨∃n:Nat,∃hn:n<of[q].length,o2[q][p]=(n:Int):=fun q hq hqo p hp=>by
  have hqd:q<d.b.l.length:=aa;have hqx:q<x.b.l.length:=by rw[hal2.ck.co.lc];exact hqd
  have qf:=hal.ck.co.ol q hqd hqo;have hl2:=hal2.ck.co.ol q hqx hq;have:=hal2.ck.co.row q hqd hqx hq p aa;rw[dL hp] at this;rcases this with⟨r,_⟩|⟨n,hn,r,_⟩
  . exact .inl r
  . exact .inr ⟨n,aa,r⟩
 refine DW.U1 aC aD [2,3,6,8,10,11,12,75] [68] 4000 (fun z:{z:Nat×List (List Int) // z.2=pM of o2 z.1∧z.1≤o2.length}=>[(76,i64 z.1.1)]) (fun z=>(68,.arr 1 [[fc 2000 1 (z.1.2.map db)]])::e_ 2000 1 (z.1.2.map db)) [(2000,.cell 68 0)] (fun z=>o2.length+1 - z.1.1) (⟨(0,[]),rfl,zero_le _⟩) ?_
 conv=>whnf
 refine⟨?_,fun z=>?_⟩
 . conv => whnf
   (exact nV)
 rcases z with⟨⟨q,acc⟩,hz,hqb⟩
 dsimp only at hz hqb;have z_len:=congrArg length hz;rw[OM] at z_len;rcases Nat.lt_or_ge q o2.length with hq|hq
 . have hqd : q < d.b.l.length := aa
   have hqx:q<x.b.l.length:=by rw[hal2.ck.co.lc];exact hqd
   have hqo:q<of.length:=aa;have qf:=hal.ck.co.ol q hqd hqo;have hl2:=hal2.ck.co.ol q hqx hq;have hns:=ON hqo hq;have hox:o2[q].length≤2000:=by rw[hl2];exact Nat.le_trans (mf (getElem_mem hqx)) aa
   rcases acc with _|⟨y0,acc⟩
   . simp only [length_nil, length_cons] at z_len
     refine zg ?_
     repeat' ((first|(refine zp ?_ ?_<;>first|exact⟨⟩|intro h)|refine zo ?_)<;>refine zg ?_)
     refine DW.aO aC aD [2,3,6,8,10,11,12,13,75,76,77,78,79,80,81,82,83,84] [] 4000 (fun y:{y:Nat×List Int // y.2=(eT of[q] o2[q]).take y.1∧y.1≤o2[q].length}=>[(85,i64 y.1.1),(14,fc 6000 1 (y.1.2.map ic))]) (fun y=>e_ 6000 1 (y.1.2.map ic)) [(6000,.slot 14)] (fun y=>o2[q].length+1 - y.1.1) (⟨(0,[]),rfl,zero_le _⟩) ?_
     conv=>whnf
     refine⟨?_,fun y=>?_⟩
     . conv => whnf
       (exact Ek)
     rcases y with⟨⟨p,row⟩,hy,hpb⟩
     dsimp only at hy hpb;have y_len:=congrArg length hy;rw[length_take,l4,Nat.min_eq_left hpb] at y_len;rcases Nat.lt_or_ge p o2[q].length with hp|hp
     . rcases row with _ | ⟨r0, row⟩
       . simp only [length_nil] at y_len
         rcases hrow2 q hq hqo p hp with h0|⟨n,hn,h0⟩
         . skip
           refine zg ?_
           repeat' ((first|refine zf ?_|(refine Rq.mk (di 8 2000 ag rfl rfl o8 ab) ?_)|(refine zp ?_ ?_<;>first|exact⟨⟩|intro h)|refine zo ?_)<;>refine zg ?_)
           (refine⟨⟨(p+1,[o2[q][p]]),(by rw[wc hp h0,<-hy];rfl),hp⟩,o_,rfl,dC⟩)
         . skip
           refine zk ?_
           repeat' ((first|refine ay.mk _ (lI hn h0) ?_|refine zf ?_|(refine Rq.mk (di 8 2000 ag rfl rfl o8 ab) ?_)|(refine zp ?_ ?_<;>first|exact⟨⟩|intro h)|refine ay.mk _ (bI aa) ?_|refine ay.mk _ (cU aa) ?_|refine zo ?_)<;>refine zk ?_)
           (refine⟨⟨(p+1,[of[q][n]]),(by rw[we hp h0 hn,<-hy];rfl),hp⟩,o_,rfl,dC⟩)
       . simp only [length_cons] at y_len
         rcases hrow2 q hq hqo p hp with h0|⟨n,hn,h0⟩
         . skip
           refine zg ?_
           repeat' ((first|refine zf ?_|(refine Rq.mk (di 8 2000 ag rfl rfl o8 ab) ?_)|(refine zp ?_ ?_<;>first|exact⟨⟩|intro h)|refine zo ?_)<;>refine zg ?_)
           (refine⟨⟨(p+1,r0::(row++[o2[q][p]])),(by rw[wc hp h0,<-hy];rfl),hp⟩,o_,rfl,dC⟩)
         . skip
           refine zk ?_
           repeat' ((first|refine ay.mk _ (lI hn h0) ?_|refine zf ?_|(refine Rq.mk (di 8 2000 ag rfl rfl o8 ab) ?_)|(refine zp ?_ ?_<;>first|exact⟨⟩|intro h)|refine ay.mk _ (bI aa) ?_|refine ay.mk _ (cU aa) ?_|refine zo ?_)<;>refine zk ?_)
           (refine⟨⟨(p+1,r0::(row++[of[q][n]])),(by rw[we hp h0 hn,<-hy];rfl),hp⟩,o_,rfl,dC⟩)
     . have hfull : eT of[q] o2[q] = row := by rw [hy, take_of_length_le (by rw [l4]; exact hp)]
       rcases row with _|⟨r0,row⟩
       . skip
         refine zg ?_
         repeat' ((first|refine zf ?_|(refine Rq.mk (di 24 2000 ag rfl rfl zx ab) ?_)|(refine zp ?_ ?_<;>first|exact⟨⟩|intro h)|refine zo ?_)<;>refine zg ?_)
         refine⟨⟨(q+1,[([]:List Int)]),(by rw[hns,<-hz,hfull];rfl),hq⟩,_,lh.t [(2,_),(3,_),(6,_),(8,_),(10,_),(11,_),(12,_),(75,_),(76,_)] [(0,_),(31,_),(32,_),(53,_),(54,_),(68,_),(8089,(.arr 1 (db ([]:List Int)::List.map db [])))] ⟨⟨_,rfl,Told.r⟩,⟨_,rfl,Told.r⟩,⟨_,rfl,Told.r⟩,⟨_,rfl,Told.r⟩,⟨_,rfl,Told.r⟩,⟨_,rfl,Told.r⟩,⟨_,rfl,Told.r⟩,⟨_,rfl,Told.r⟩,⟨_,rfl,Told.r⟩,trivial⟩ ⟨⟨_,rfl,.inl rfl⟩,⟨_,rfl,.inl rfl⟩,⟨_,rfl,.inl rfl⟩,⟨_,rfl,.inl rfl⟩,⟨_,rfl,.inl rfl⟩,⟨_,rfl,.inl rfl⟩,⟨_,rfl,M8 (pre:=[]) rfl rfl Told.nil⟩,trivial⟩,(by(conv=>whnf);(exact nV)),rfl,dC⟩
       . skip
         refine zg ?_
         repeat' ((first|refine zf ?_|(refine Rq.mk (di 24 2000 ag rfl rfl zx ab) ?_)|(refine zp ?_ ?_<;>first|exact⟨⟩|intro h)|refine zo ?_)<;>refine zg ?_)
         refine⟨⟨(q+1,[(r0::row)]),(by rw[hns,<-hz,hfull];rfl),hq⟩,_,lh.z 6000 (.arr 1 ((r0::row).map ic)) [(2,_),(3,_),(6,_),(8,_),(10,_),(11,_),(12,_),(75,_),(76,_)] [(0,_),(31,_),(32,_),(53,_),(54,_),(68,_),(8089,(.arr 1 (db (r0::row)::List.map db [])))] rfl ⟨⟨_,rfl,.inl rfl⟩,⟨_,rfl,.inl rfl⟩,⟨_,rfl,.inl rfl⟩,⟨_,rfl,.inl rfl⟩,⟨_,rfl,.inl rfl⟩,⟨_,rfl,.inl rfl⟩,⟨_,rfl,.inl rfl⟩,⟨_,rfl,.inl rfl⟩,⟨_,rfl,.inl rfl⟩,trivial⟩ ⟨⟨ab,_,rfl,.inl rfl⟩,⟨ab,_,rfl,.inl rfl⟩,⟨ab,_,rfl,.inl rfl⟩,⟨ab,_,rfl,.inl rfl⟩,⟨ab,_,rfl,.inl rfl⟩,⟨ab,_,rfl,.inl rfl⟩,⟨ab,_,rfl,GZ (pre:=[]) rfl rfl (.inr (qQ (f:=ic) (fun _=>rfl) rfl))⟩,trivial⟩,(by(conv=>whnf);(exact nV)),rfl,dC⟩
   . simp only [length_nil, length_cons] at z_len
     refine zg ?_
     repeat' ((first|(refine zp ?_ ?_<;>first|exact⟨⟩|intro h)|refine zo ?_)<;>refine zg ?_)
     refine DW.aO aC aD [2,3,6,8,10,11,12,13,75,76,77,78,79,80,81,82,83,84] [] 4000 (fun y:{y:Nat×List Int // y.2=(eT of[q] o2[q]).take y.1∧y.1≤o2[q].length}=>[(85,i64 y.1.1),(14,fc 6000 1 (y.1.2.map ic))]) (fun y=>e_ 6000 1 (y.1.2.map ic)) [(6000,.slot 14)] (fun y=>o2[q].length+1 - y.1.1) (⟨(0,[]),rfl,zero_le _⟩) ?_
     conv=>whnf
     refine⟨?_,fun y=>?_⟩
     . conv => whnf
       (exact Ek)
     rcases y with⟨⟨p,row⟩,hy,hpb⟩
     dsimp only at hy hpb;have y_len:=congrArg length hy;rw[length_take,l4,Nat.min_eq_left hpb] at y_len;rcases Nat.lt_or_ge p o2[q].length with hp|hp
     . rcases row with _ | ⟨r0, row⟩
       . simp only [length_nil] at y_len
         rcases hrow2 q hq hqo p hp with h0|⟨n,hn,h0⟩
         . skip
           refine zg ?_
           repeat' ((first|refine zf ?_|(refine Rq.mk (di 8 2000 ag rfl rfl o8 ab) ?_)|(refine zp ?_ ?_<;>first|exact⟨⟩|intro h)|refine zo ?_)<;>refine zg ?_)
           (refine⟨⟨(p+1,[o2[q][p]]),(by rw[wc hp h0,<-hy];rfl),hp⟩,o_,rfl,dC⟩)
         . skip
           refine zk ?_
           repeat' ((first|refine ay.mk _ (lI hn h0) ?_|refine zf ?_|(refine Rq.mk (di 8 2000 ag rfl rfl o8 ab) ?_)|(refine zp ?_ ?_<;>first|exact⟨⟩|intro h)|refine ay.mk _ (bI aa) ?_|refine ay.mk _ (cU aa) ?_|refine zo ?_)<;>refine zk ?_)
           (refine⟨⟨(p+1,[of[q][n]]),(by rw[we hp h0 hn,<-hy];rfl),hp⟩,o_,rfl,dC⟩)
       . simp only [length_cons] at y_len
         rcases hrow2 q hq hqo p hp with h0|⟨n,hn,h0⟩
         . skip
           refine zg ?_
           repeat' ((first|refine zf ?_|(refine Rq.mk (di 8 2000 ag rfl rfl o8 ab) ?_)|(refine zp ?_ ?_<;>first|exact⟨⟩|intro h)|refine zo ?_)<;>refine zg ?_)
           (refine⟨⟨(p+1,r0::(row++[o2[q][p]])),(by rw[wc hp h0,<-hy];rfl),hp⟩,o_,rfl,dC⟩)
         . skip
           refine zk ?_
           repeat' ((first|refine ay.mk _ (lI hn h0) ?_|refine zf ?_|(refine Rq.mk (di 8 2000 ag rfl rfl o8 ab) ?_)|(refine zp ?_ ?_<;>first|exact⟨⟩|intro h)|refine ay.mk _ (bI aa) ?_|refine ay.mk _ (cU aa) ?_|refine zo ?_)<;>refine zk ?_)
           (refine⟨⟨(p+1,r0::(row++[of[q][n]])),(by rw[we hp h0 hn,<-hy];rfl),hp⟩,o_,rfl,dC⟩)
     . have hfull : eT of[q] o2[q] = row := by rw [hy, take_of_length_le (by rw [l4]; exact hp)]
       rcases row with _|⟨r0,row⟩
       . skip
         refine zg ?_
         repeat' ((first|refine zf ?_|(refine Rq.mk (di 24 2000 ag rfl rfl zx ab) ?_)|(refine zp ?_ ?_<;>first|exact⟨⟩|intro h)|refine zo ?_)<;>refine zg ?_)
         refine⟨⟨(q+1,y0::(acc++[([]:List Int)])),(by rw[hns,<-hz,hfull];rfl),hq⟩,_,lh.t [(2,_),(3,_),(6,_),(8,_),(10,_),(11,_),(12,_),(75,_),(76,_)] [(0,_),(31,_),(32,_),(53,_),(54,_),(68,_),(8089,(.arr 1 (db y0::List.map db (acc++[([]:List Int)]))))] ⟨⟨_,rfl,Told.r⟩,⟨_,rfl,Told.r⟩,⟨_,rfl,Told.r⟩,⟨_,rfl,Told.r⟩,⟨_,rfl,Told.r⟩,⟨_,rfl,Told.r⟩,⟨_,rfl,Told.r⟩,⟨_,rfl,Told.r⟩,⟨_,rfl,Told.r⟩,trivial⟩ ⟨⟨_,rfl,.inl rfl⟩,⟨_,rfl,.inl rfl⟩,⟨_,rfl,.inl rfl⟩,⟨_,rfl,.inl rfl⟩,⟨_,rfl,.inl rfl⟩,⟨_,rfl,.inl rfl⟩,⟨_,rfl,M8 (Gm ag) Kd Told.nil⟩,trivial⟩,(by(conv=>whnf);(exact nV)),rfl,dC⟩
       . skip
         refine zg ?_
         repeat' ((first|refine zf ?_|(refine Rq.mk (di 24 2000 ag rfl rfl zx ab) ?_)|(refine zp ?_ ?_<;>first|exact⟨⟩|intro h)|refine zo ?_)<;>refine zg ?_)
         refine⟨⟨(q+1,y0::(acc++[(r0::row)])),(by rw[hns,<-hz,hfull];rfl),hq⟩,_,lh.z 6000 (.arr 1 ((r0::row).map ic)) [(2,_),(3,_),(6,_),(8,_),(10,_),(11,_),(12,_),(75,_),(76,_)] [(0,_),(31,_),(32,_),(53,_),(54,_),(68,_),(8089,(.arr 1 (db y0::List.map db (acc++[(r0::row)]))))] rfl ⟨⟨_,rfl,.inl rfl⟩,⟨_,rfl,.inl rfl⟩,⟨_,rfl,.inl rfl⟩,⟨_,rfl,.inl rfl⟩,⟨_,rfl,.inl rfl⟩,⟨_,rfl,.inl rfl⟩,⟨_,rfl,.inl rfl⟩,⟨_,rfl,.inl rfl⟩,⟨_,rfl,.inl rfl⟩,trivial⟩ ⟨⟨ab,_,rfl,.inl rfl⟩,⟨ab,_,rfl,.inl rfl⟩,⟨ab,_,rfl,.inl rfl⟩,⟨ab,_,rfl,.inl rfl⟩,⟨ab,_,rfl,.inl rfl⟩,⟨ab,_,rfl,.inl rfl⟩,⟨ab,_,rfl,GZ (Gm ag) Kd (.inr (qQ (f:=ic) (fun _=>rfl) rfl))⟩,trivial⟩,(by(conv=>whnf);(exact nV)),rfl,dC⟩
 . have hbo : jE of o2 = pM of o2 q := by rw [show q = o2.length by omega]; rfl
   have hcf:=hal.ck.comp hal2.ck;have hck3:=AB c x j (jE of o2) (hsm.pr aa hcf aa) aa hj hck hcx hcf;rw[hbo,<-hz] at hck3;rcases acc with _|⟨y0,acc⟩
   . simp only [length_nil] at z_len
     refine zg ?_
     repeat' ((first|(refine DC.lr (args2:=[c.av,i64 j,x.av,.agg [.ak 1 []]]) ⟨.inl .r,.inl .r,.inl .r,.inl (.inr ⟨_,_,rfl,rfl,.n,trivial⟩),trivial⟩ ?_;refine DC.pure rfl hck3 ?_;rintro _ rfl)|(refine zp ?_ ?_<;>first|exact⟨⟩|intro h)|refine zo ?_)<;>refine zg ?_)
     all_goals first|rfl|exact⟨⟩|exact⟨⟩
   . simp only [length_cons] at z_len
     refine zg ?_
     repeat' ((first|(refine DC.wZ (nm:=2000) (args2:=[c.av,i64 j,x.av,.agg [.ak 1 ((y0::acc).map db)]]) rfl ⟨.inl rfl,.inl rfl,.inl rfl,.inr (nR (n:=19) (aJ (gV (f:=db) (n:=18) (fun _=>rfl) rfl) rfl)),trivial⟩ ?_;refine DC.pure rfl hck3 ?_;rintro _ rfl)|(refine zp ?_ ?_<;>first|exact⟨⟩|intro h)|refine zo ?_)<;>refine zg ?_)
     all_goals first|rfl|exact⟨⟩|exact⟨⟩
 exact⟨⟩
theorem ZK (c:Cd)(k j:Int)(hsane:af 6 [] (fun ae=>ae = .ret (.bool true))):af 4 [c.av,i64 k,i64 j] (fun ae=>ae = .ret (.bool true)):=by
 by_cases hsm:fz c 120 40
 . by_cases hn : cB c = 0 ∧ 4 ≤ k ∧ k ≤ 16 ∧ 4 ≤ j ∧ j ≤ 16
   . exact ZL c k j hsane hsm hn.1 ⟨hn.2.1,hn.2.2.1⟩ ⟨hn.2.2.2.1,hn.2.2.2.2⟩
   . exact ZJ c k j hsane hsm hn
 . exact ZM c k j hsane hsm
end Go.Ago
end
namespace Go.Ago
open Go.Proofs List Nat Tryz
theorem VC:(prog.funcs.toList.all fun f=>!(f.name == "runtime.NumGoroutine"))=true:=aG
theorem VB (g:Nat)(fn:Func)(h:prog.funcs[g]? = some fn):fn.name ≠ "runtime.NumGoroutine":=by
 have:=all_eq_true.1 VC fn (mem_of_getElem? (i:=g) (by rw[Array.getElem?_toList];exact h))
 simpa using this
theorem Ps (g:FuncId)(cap:List AV)(h:DP prog fx g cap (· = .ret (.ao []))):DP prog fx 127 [.fn (.func g) [] cap] (· = .ret (i64 0)):=by
 obtain⟨ae,h1,rfl⟩:=h;exact⟨_,Fk h1,rfl⟩
def W0 (g:Nat):Bool:=[33,37,39,42,43,45,51,62,84,88,91,111,167,170].any fun k=>beq g k
def RZ (g:Nat):Bool:=[18,19,75,78].any fun k=>beq g k
def R5 (g:Nat)(id:Nat):List Nat:=match beq g 62 with
 | true=>[999]
 | false => match beq g 46 with
   | true => match beq id 5 with
     | true=>[8]
     | false => match beq id 20 with
       | true=>[15]
       | false=>[]
   | false=>[]
abbrev wM (Kn:Nat->Option (List AV->Option AV))(n:Nat):jn:=ev prog fx Kn 127 RZ R5 W0 n
def zM (Kn:Nat->Option (List AV->Option AV)):Prop:=∀g T args v,Kn g=some T->T args=some v->af g args (· = .ret v)
theorem Gp {Kn:Nat->Option (List AV->Option AV)}(hK:zM Kn){n:Nat}{g:FuncId}{args:List AV}{v:AV}(h:(wM Kn n).P g args (fun ae=>ae = .ret v)=(AE.ret v=AE.ret v)):af g args (· = .ret v):=
 (Gs aC aD VB hK Ps n).P _ _ _ (h ▸ rfl)
end Go.Ago
