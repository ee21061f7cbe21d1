/-
  Part C02: lemmas, each with its own conditions.
-/
import Derived.Test.YthaolifcglpkdaaGreatDoorB47
set_option maxRecDepth 100000
set_option maxHeartbeats 0
set_option linter.all false
section
namespace Go.Ago
open List Nat
variable {P:Program} {E:Env}
theorem AC.rT {g:FuncId}{nm:Nat}{args args2:List AV}{H H2:aj}{nx:Nat}{R:AE->aj->Nat->Prop}{o:an}(C:H.get nm=some o)(hx:fT (fC nm o) args args2)
 (O:∀k b,H2.get k=some b->k≠nm∧∃a,H.get k=some a∧iu nm o a b)(h:AC P E g args2 H2 nx R):AC P E g args H nx R:=by
 refine⟨h.1,fun c w D m S hrl=>?_⟩
 obtain⟨B,Z,b2,b3⟩:=m.obj nm o C;have N:c.le ⟨c.f,fun b=>c.aq b∨b=B.b⟩:=⟨fun _ _ e=>e,fun _ d => .inl d⟩
 have j:∀{x v},Rel c w x v->Rel ⟨c.f,fun b=>c.aq b∨b=B.b⟩ w x v:=fun p=>p.mono N (fun _ _=>rfl)
 have L:Own c H B.b:=⟨nm,o,B,C,Z,rfl⟩;have z:∀x y v,fC nm o x y->Rel c w x v->Rel ⟨c.f,fun b=>c.aq b∨b=B.b⟩ w y v:=by
  rintro x y v (rfl|hy) p
  . exact j p
  . refine (ks (m.only C) (I := fun b => c.aq b ∨ b = B.b) (fun b d => .inl d) (fun b d => ?_) 20 p hy).mono ⟨fun _ _ e => (by cases e), fun _ d => d⟩ (fun _ _ => rfl)
    obtain⟨k,Q,s,r,e2,rfl⟩:=d;rw[Tr.get] at r;cases b:beq k nm with
    | true =>
      simp_all
    | false=>rw[b] at r;cases r
 have X:aN E.bS ⟨c.f,fun b=>c.aq b∨b=B.b⟩ w H2:=by
  refine⟨fun b d=>?_,m.bW,fun k b e=>?_,fun k k' Q o2 s B2 e e' f f' d=>?_,fun g cs e=>j (m.bS g cs e)⟩
  . rcases d with d | rfl
    . exact m.bN b d
    . exact m.bW _ _ Z
  . obtain ⟨T, U, r, S⟩ := O k b e
    obtain⟨s,c1,c2,c3⟩:=m.obj k U r;refine⟨s,c1,fun G=>?_,?_⟩
    . rcases G with G | G
      . exact c2 G
      . exact T (m.inj _ _ _ _ s B r C c1 Z G)
    . rcases S with rfl | ⟨sz, es, fs, rfl, rfl, J, hfs⟩
      . exact c3.mono rfl j (fun b d=>⟨N.aq b d,rfl⟩)
      . obtain ⟨V, t, U, a2, a3, a4, a5⟩ := c3
        refine⟨V,t,U,a2,a3,zbu (zbx sz J) a4,fun i f S=>?_⟩
        grind
  . obtain ⟨_, x1, W, _⟩ := O k Q e
    obtain⟨_,y1,y2,_⟩:=O k' o2 e';exact m.inj _ _ _ _ s B2 W y2 f f' d
 have K:=by
  have:∀{F A:List AV} {D:List Value},fT (fC nm o) F A->aP c w F D->aP ⟨c.f,fun b=>c.aq b∨b=B.b⟩ w A D:=by
   intro F
   induction F with
   | nil=>intro A D u p;cases A with|nil=>obtain rfl:=p.fX;exact aP.nil|cons _ _=>exact u.elim
   | cons x F ih =>
     intro A D u p;cases A with
     | nil=>exact u.elim
     | cons y A =>
       obtain⟨v,us,rfl,h1,h2⟩:=p.dP;exact .cons (z _ _ _ u.1 h1) (ih u.2 h2)
  exact this hx hrl
 have l:∀b,Own ⟨c.f,fun b=>c.aq b∨b=B.b⟩ H2 b->Own c H b:=by
  rintro b ⟨k,Q,s,r,e2,rfl⟩
  obtain⟨_,x1,W,_⟩:=O k Q r;exact⟨k,x1,s,W,e2,rfl⟩
 refine(h.2 _ w D X S K).mono ?_
 rintro e w' ⟨c',H',Y,ae,n,k2,k3,k4,k5,k6⟩
 refine⟨c',H',Y,ae,⟨n.f,fun b d=>n.aq b (.inl d),n.os,n.tape,n.output,n.size,fun b d u=>n.other b d fun C=>u (l b C),fun b d=>?_,fun b d=>(n.own b d).imp (l b) id⟩,k2,k3,k4,k5,k6⟩
 rcases n.ez b d with(g|rfl)|g|g
 . exact .inl g
 . exact .inr (.inl L)
 . exact .inr (.inl (l b g))
 . exact .inr (.inr g)
theorem DC.rT {g:FuncId}{nm:Nat}{args args2:List AV}{H H2:aj}{nx:Nat}{R:AE->aj->Nat->Prop}{o:an}(l:H.get nm=some o)(e:fT (fC nm o) args args2)
 (f:∀k b,H2.get k=some b->k≠nm∧∃a,H.get k=some a∧iu nm o a b)(h:DC P E g args2 H2 nx R):DC P E g args H nx R:=by
 obtain⟨i,j,c,m,d⟩:=h;exact⟨i,j,c,m.rT l e f,d⟩
end Go.Ago
end
section
namespace Go.Ago
open List Nat
variable {P:Program} {E:Env}
theorem xg {o p r:an}{j:Nat}{o1:an}(e:(Tr.put 0 (some o) (Tr.put 1 (some p) (Tr.put 2 (some r) Tr.nil)):aj).get j=some o1):(j=0∧o1=o)∨(j=1∧o1=p)∨(j=2∧o1=r):=by
 rw[Tr.get] at e;cases b:beq j 0 with
 | true=>simp_all
 | false =>
   rw[b] at e;rw[Tr.get] at e;cases b:beq j 1 with
   | true=>simp_all
   | false =>
     rw[b] at e;rw[Tr.get] at e;cases b:beq j 2 with
     | true=>simp_all
     | false=>rw[b] at e;cases e
theorem DC.G_ {g:FuncId}{args c:List AV}{H:aj}{nx k l m:Nat}{o p r:an}{R:AE->aj->Nat->Prop}{F:AE->aj->Nat->Prop}(h:DC P E g c (.put 0 (some o) (.put 1 (some p) (.put 2 (some r) .nil))) 3 F)
 (M:args=c.map (AV.r2 fun j=>bif beq j 0 then k else bif beq j 1 then l else m))(J:c.all (AV.l2 3)=true)(y:k≠l)(w:k≠m)(t:l≠m)(L:H.get k=some o)(u:H.get l=some p)(v:H.get m=some r)(U:o.dT)(I:p.dT)(q:r.dT)
 (S:∀A H' f,F A H' f->∃i n s,A = .ret (.ay 0 i n s)∧∃o',H'.get 0=some o'∧H'.get 1=some p∧H'.get 2=some r∧o'.dT∧R (.ret (.ay k i n s)) (.put k (some o') H) nx):DC P E g args H nx R:=by
 obtain⟨A,H',f,V,X⟩:=h;obtain⟨i,n,s,rfl,o',K,C,x,N,O⟩:=S A H' f X;refine⟨_,_,nx,AC.w9 (fun j=>bif beq j 0 then k else bif beq j 1 then l else m) V M J (fun j D e=>?_) (fun j Y D o2 e T d=>?_) (fun a Q Z W=>?_),O⟩
 . rcases xg e with ⟨rfl, rfl⟩ | ⟨rfl, rfl⟩ | ⟨rfl, rfl⟩
   . exact⟨ab,L,U⟩
   . exact⟨ab,u,I⟩
   . exact⟨ab,v,q⟩
 . rcases xg e with ⟨rfl, rfl⟩ | ⟨rfl, rfl⟩ | ⟨rfl, rfl⟩ <;> rcases xg T with ⟨rfl, rfl⟩ | ⟨rfl, rfl⟩ | ⟨rfl, rfl⟩
   . rfl
   . exact absurd d y
   . exact absurd d w
   . exact absurd d.symm y
   . rfl
   . exact absurd d t
   . exact absurd d.symm w
   . exact absurd d.symm t
   . rfl
 . obtain ⟨rfl, rfl, rfl⟩ := W
   refine⟨_,.inr ⟨0,i,n,s,ab,rfl,rfl⟩,.put k (some o') H,fun j D e=>?_,rfl,rfl,rfl⟩
   rw[Tr.get] at e;cases b:beq j k with
   | true =>
     rw[b] at e;cases e;exact .inr ⟨0,o,rfl,(zbl b).symm,K,N⟩
   | false =>
     rw[b] at e;simp only[zb0] at e
     by_cases G:j=l
     . subst G
       rw[u] at e;cases e;exact .inr ⟨1,p,rfl,rfl,C,I⟩
     . by_cases z : j = m
       . subst z
         rw[v] at e;cases e;exact .inr ⟨2,r,rfl,rfl,x,q⟩
       . refine .inl ⟨e, fun k' o0 B d => ?_⟩
         rcases xg B with⟨rfl,rfl⟩|⟨rfl,rfl⟩|⟨rfl,rfl⟩
         . simp_all
         . exact G d.symm
         . exact z d.symm
end Go.Ago
end
section
namespace Go.Ago
open Go.Proofs List Nat Tryz
def DZ (b:Bd)(p:Nat)(i:Ins):Bd:=⟨b.ah,⟨b.ins.l.set p i,by rw[zbP];exact b.ins.h⟩⟩
def dY (d:Cd)(q p:Nat)(b:Bd)(i:Ins):Cd:=⟨d.p,⟨d.b.l.set q (DZ b p i),by rw[zbP];exact d.b.h⟩⟩
section
variable {c d:Cd} {of:List (List Int)} {q p:Nat} {i:Ins} {k:Int}
theorem nS {b:Bd}:(dY d q p b i).b.l.length=d.b.l.length:=by simp[dY]
theorem LQ (e:q<d.b.l.length)(j:Nat)(a:j<(dY d q p d.b.l[q] i).b.l.length)(h:j<d.b.l.length):(dY d q p d.b.l[q] i).b.l[j]=if j=q then DZ d.b.l[q] p i else d.b.l[j]:=by
 simp[dY]
 grind
theorem qR (f:q<d.b.l.length)(j:Nat)(a:j<(dY d q p d.b.l[q] i).b.l.length)(h:j<d.b.l.length):(dY d q p d.b.l[q] i).b.l[j].ins.l.length=d.b.l[j].ins.l.length∧(dY d q p d.b.l[q] i).b.l[j].ah=d.b.l[j].ah:=by
 rw[LQ _ j _ h]
 by_cases e:j=q
 . subst e
   rw[if_pos rfl];exact⟨by simp[DZ],rfl⟩
 grind
theorem za (o:q<d.b.l.length)(j:Nat)(a:j<(dY d q p d.b.l[q] i).b.l.length)(h:j<d.b.l.length)(p':Nat)(f:p'<(dY d q p d.b.l[q] i).b.l[j].ins.l.length)(n:p'<d.b.l[j].ins.l.length) :
 (dY d q p d.b.l[q] i).b.l[j].ins.l[p']=if j=q∧p'=p then i else d.b.l[j].ins.l[p']:=by
 have g:=LQ _ j a h
 by_cases e:j=q
 . subst e
   rw[if_pos rfl] at *;have m:(dY d j p _ i).b.l[j].ins.l=d.b.l[j].ins.l.set p i:=by rw[g];rfl
   grind
 grind
theorem ZT (o:q<d.b.l.length)(g:p<d.b.l[q].ins.l.length)(r:mO d.b.l[q].ins.l[p] i):tP d (dY d q p d.b.l[q] i) q p:=by
 refine⟨nS,fun j h a=>(qR _ j a h).1,fun j h a n m f=>?_⟩
 rw[za _ j _ h _ _ m]
 by_cases e:j=q∧n=p
 . grind
 rw[if_neg e];exact⟨mO.refl _,fun _=>rfl⟩
theorem ZU (e:q<d.b.l.length):bK (dY d q p d.b.l[q] i).b.l=bK d.b.l:=by
 unfold bK
 congr 1
 refine zcx (by simp[dY]) fun j f a=>?_
 rw[zcl,zcl];exact(qR _ j _ _).1
theorem ZQ (a:q0 c d of)(B:q<c.b.l.length)(v:q<d.b.l.length)(r:q<of.length)(D:p<d.b.l[q].ins.l.length){n:Nat}(G:n<c.b.l[q].ins.l.length)(F:of[q].getD p 0=(n:Int))(t:mO d.b.l[q].ins.l[p] i)(o:SimI c.b.l[q].ins.l[n] i):q0 c (dY d q p d.b.l[q] i) of:=by
 refine⟨a.pr,nS.trans a.lc,a.lo,fun j f r=>?_,fun j y f r g s=>?_,a.uy⟩
 . have h : j < d.b.l.length := by rw [<-nS]; exact f
   rw[(qR v j f h).1];exact a.ol j h r
 . have h : j < d.b.l.length := by rw [<-nS]; exact f
   have w:g<d.b.l[j].ins.l.length:=by rw[<-(qR v j f h).1];exact s
   rw[za v j f h g s w]
   by_cases e:j=q∧g=p
   . rw [if_pos e]
     obtain⟨rfl,rfl⟩:=e;rcases a.row j y h r g w with⟨z,_⟩|⟨A,x,z,H,E,C⟩
     . omega
     . obtain rfl : A = n := aa
       refine .inr ⟨A,x,z,o,?_,?_⟩
       . rw [show bP i = bP d.b.l[j].ins.l[g] by unfold bP; rw [t.op, t.n, t.m]]
         exact E
       . rw [t.n]
         exact C
   . rw [if_neg e]
     exact a.row j y h r g w
theorem ZR (e:q9 k d)(r:q<d.b.l.length)(hi:j2 k i):q9 k (dY d q p d.b.l[q] i):=fun b g=>by
 obtain⟨j,m,rfl⟩:=zbo.1 g;have h:j<d.b.l.length:=by rw[<-nS];exact m
 refine⟨by rw[(qR _ j _ h).2];exact(e _ (ag)).1,fun x n=>?_⟩
 obtain⟨o,a,rfl⟩:=zbo.1 n;have f:o<d.b.l[j].ins.l.length:=by rw[<-(qR _ j _ h).1];exact a
 rw[za _ j _ h _ _ f];split
 . exact hi
 . exact(e _ (za9 h)).2 _ (ag)
theorem ZS (j:bU d=0)(A:q<c.b.l.length)(f:q<d.b.l.length)(G:q<of.length)(e:p<d.b.l[q].ins.l.length){n:Nat}(L:n<c.b.l[q].ins.l.length)(y:of[q].getD p 0=(n:Int))(N:mO d.b.l[q].ins.l[p] i)
 (t:bU (dY d q p d.b.l[q] i)=0){g:Gr}{X:List Hd}(F:cZ d (q:Int) g)(J:gk (bM c.b.l[q].ins.l of[q] g) X){m:Nat}{l r:Int}(K:(aQ i)[m]? = some l)(H:(aQ c.b.l[q].ins.l[n])[m]? = some r)(P:((X.getD p cb).of l).has r=false):¬∀M,pB c (dY d q p d.b.l[q] i) of M:=fun x=>by
 have a:q<(dY d q p d.b.l[q] i).b.l.length:=by rw[nS];exact f
 obtain⟨I,O,s,u,D⟩:=x q A a G;have z:g.ins.l=d.b.l[q].ins.l:=by obtain⟨_,B,_⟩:=F;simp only[B,zbt]
 have v:I.ins.l=(dY d q p d.b.l[q] i).b.l[q].ins.l:=by obtain⟨_,B,_⟩:=s;simp only[B,zbt]
 have E:=(ZT f e N).sk (C:=c.b.l[q].ins.l) (o:=of[q]) f a (fun _=>aa) z v (F.dZ j) (s.dZ t)
 rw[E] at u;obtain rfl:=gk.uniq J u;have h:p<(dY d q p d.b.l[q] i).b.l[q].ins.l.length:=by rw[(qR f q a f).1];exact e
 have:=D p h n L y m l r (by rw[za f q a f p h e,if_pos ⟨rfl,rfl⟩];exact K) H
 grind
end
theorem NC {i:Ins}(h0:0≤i.a)(h:hasB i.op 65=true):(aQ i)[0]? = some i.a:=by
 unfold aQ
 grind
theorem ND {i:Ins}(h0:0≤i.b)(h:hasB i.op 66=true){m:Nat}(c:m=if hasB i.op 65=true∧i.a≠-1 then 1 else 0):(aQ i)[m]? = some i.b:=by
 subst c;unfold aQ;rw[if_pos (show hasB i.op 66=true∧i.b≠-1 from⟨h,aa⟩)]
 grind
theorem NF {i:Ins}(h:hasB i.op 76=true):aQ i=i.l.l:=by
 obtain⟨b,a⟩:=HG _ h;unfold aQ
 grind
end Go.Ago
end
namespace Go.Ago
open Go.Proofs List Nat Tryz
attribute [local irreducible] bA bw aV bp bG wr aZ bF comp DC DP DW DV
attribute [local irreducible] dN ef
theorem HI (h0:Hd)(b:h0.iP)(a r:Int):af 64 [i64 r,.bm h0.row,.bm [i64 a]] (fun d=>d = .ret (.bool (!((h0.of a).has r)))):=by
 refine zw func64 ?_;refine zg ?_
 repeat' ((first|(refine zp ?_ ?_<;>intro h)|(refine DC.pure rfl (qs h0 a) ?_;rintro _ rfl)|(refine DC.pure rfl (qb (h0.of a) (b.all a).1 (zbu (b.all a).2 aa) r) ?_;rintro _ rfl))<;>refine zg ?_)
 all_goals (congr 2;simp[*])
theorem TL (h0:Hd)(c:h0.iP)(a:Int)(l:List Int)(j:l.length≤100000):af 93 [aT l,.fn (.func 64) [] [.bm h0.row,.bm [i64 a]]] (fun f=>∃n:Int,f = .ret (i64 n)∧((n = -1∧j4 (h0.of a) l l.length)∨∃m:Nat,n=(m:Int)∧j4 (h0.of a) l m∧∃h:m<l.length,(h0.of a).has l[m]=false)):=by
 refine zw func93 ?_;refine zg ?_
 repeat' ((first|(refine zp ?_ ?_<;>first|exact⟨⟩|intro h)|refine zo ?_)<;>refine zg ?_)
 refine DW.aO aC aD [0,1,4,7] [] 0 (fun x:{x:Nat // j4 (h0.of a) l x}=>[(8,i64 x.1)]) (fun _=>[]) [] (fun x=>l.length+1 - x.1) (⟨0,zbq _,fun i h g=>absurd g (zbK _)⟩) ?_
 refine zl fun x=>?_
 have b:=x.2;have e:=b.le;refine zg ?_
 repeat' ((first|(refine zp ?_ ?_<;>intro h)|(refine DC.pure rfl (HI h0 c a (l[x.1]'aa)) ?_;rintro _ rfl))<;>refine zg ?_)
 . exact⟨_,rfl,.inr ⟨x.1,rfl,b,aa,by assumption⟩⟩
 . refine ⟨⟨x.1 + 1, b.step aa bD⟩, ?_, rfl, bH⟩
   conv=>whnf
   (exact o8)
 . exact⟨-1,rfl,.inl ⟨rfl,⟨zbm _,fun i h _=>b.lo i h aa⟩⟩⟩
theorem Gi (h0:Hd)(d:h0.iP)(a:Int)(l:List Int)(w:l≠[])(k:l.length≤100000):cM 63 [.ay 0 0 l.length 1,.fn (.func 64) [] [.ptr 1 0 0,.ptr 2 0 0]] (.put 0 (some (.arr 1 (l.map ic))) (.put 1 (some (.arr 3 [h0.row])) (.put 2 (some (.arr 1 [[i64 a]])) .nil))) 3
 (fun p H' _=>∃t:List Int,p = .ret (.ay 0 0 (l.filter (h0.of a).has).length 1)∧H'.get 0=some (.arr 1 ((l.filter (h0.of a).has++t).map ic))∧H'.get 1=some (.arr 3 [h0.row])∧H'.get 2=some (.arr 1 [[i64 a]])):=by
 refine zd func63 ?_;refine zg ?_
 repeat' ((first|(refine zp ?_ ?_<;>first|exact⟨⟩|intro h)|(refine DC.flat (args':=[aT l,.fn (.func 64) [] [.bm h0.row,.bm [i64 a]]]) (da (y5 (f:=ic) (n:=19) (l:=l) (fun _=>rfl) rfl) (da rfl rfl)) (TL h0 d a l k) ?_;rintro _ ⟨n,rfl,⟨rfl,hid⟩|⟨m,rfl,hid,o,c⟩⟩<;>refine⟨rfl,?_⟩))<;>refine zg ?_)
 . exact⟨[],by rw[hid.all],by rw[hid.all,zcX];rfl,rfl,rfl⟩
 have e:dN (h0.of a) l (m+1)=l.take m:=(xa o c).trans (xb hid);have i:((dN (h0.of a) l (m+1)).length:Int)=(m:Int):=by rw[e,zbA,zcw aa]
 have g:ef (h0.of a) l (m+1)=l:=(CB o c).trans (IP hid);refine DW.aO aC aD [0,1,4] [0] 0 (fun x:{x:Nat // m+1≤x∧x≤l.length}=>[(6,i64 x.1),(5,i64 (dN (h0.of a) l x.1).length)]) (fun x=>[(0,.arr 1 ((ef (h0.of a) l x.1).map ic))]) [] (fun x=>l.length+1 - x.1) (⟨m+1,aa,aa⟩) ?_
 conv=>whnf
 refine⟨?_,fun x=>?_⟩
 . conv => whnf
   (repeat' first|exact True.intro|apply And.intro|rfl|exact IU g|exact ss|exact zbc (AV.int .i64) i.symm|(refine cw ?_ ?_ ?_<;>(try dsimp only)<;>omega))
 have r:=x.2.1;have s:=x.2.2;have u:=@xc (h0.of a) l x.1;have v:=@CC (h0.of a) l x.1;refine zk ?_
 repeat' ((first|(refine zp ?_ ?_<;>intro h)|refine bR (IS (n:=x.1) aa) ?_|refine bR (eV (l:=ef (h0.of a) l x.1) aa) ?_|(refine DC.flat (args':=[i64 (l[x.1]'aa),.bm h0.row,.bm [i64 a]]) (da rfl (da rfl (da rfl rfl))) (HI h0 d a _) ?_;rintro _ rfl;refine⟨rfl,?_⟩))<;>refine zk ?_)
 . have b : x.1 < l.length := aa
   refine⟨⟨x.1+1,aa,aa⟩,?_,rfl,bH⟩
   conv=>whnf
   (repeat' first|exact True.intro|apply And.intro|rfl|exact IT b h|exact ss|exact zbc (AV.int .i64) (He b h)|(refine cw ?_ ?_ ?_<;>(try dsimp only)<;>omega))
 . have b : x.1 < l.length := aa
   refine⟨⟨x.1+1,aa,aa⟩,?_,rfl,bH⟩
   conv=>whnf
   (repeat' first|exact True.intro|apply And.intro|rfl|(refine IQ b h ?_ rfl;simp;done)|exact ss|exact zbc (AV.int .i64) (Hc b h k)|(refine cw ?_ ?_ ?_<;>(try dsimp only)<;>omega))
 . have y : x.1 = l.length := aa
   refine⟨replicate (l.length - (l.filter (h0.of a).has).length) 0,?_,?_,rfl,rfl⟩
   . rw[BG aa];simp
   . exact zbc (fun q=>some (an.arr 1 q)) (FX aa)
end Go.Ago
section
namespace Go.Ago
open Go.Proofs List Nat Tryz
attribute [local irreducible] bA bw aV bp bG wr aZ bF comp DC DP DW DV
attribute [local irreducible] a_
theorem Wx (n:Nat)(g:n≤100000)(h0:0<n):cM 45 [i64 n] .nil 0 (fun f H' _=>∃K m,f = .ret (.ay K 0 m 1)∧m=(a_ n).length∧H'.get K=some (.arr 1 ((a_ n).map ic))):=by
 refine zd func45 ?_;refine zg ?_
 repeat' ((first|(refine zp ?_ ?_<;>first|exact⟨⟩|intro h)|refine zo ?_)<;>refine zg ?_)
 refine DW.aO aC aD [2,5] [] 2000 (fun x:{x:Nat×List Int // x.2=a_ x.1∧x.1≤n}=>[(6,i64 x.1.1),(3,fu 1000 1 (x.1.2.map ic))]) (fun x=>fq 1000 1 (x.1.2.map ic)) [(1000,.slot 3)] (fun x=>n+1 - x.1.1) (⟨(0,[]),JZ,zbq _⟩) ?_
 refine zl fun x=>?_
 rcases x with⟨⟨m,_|⟨y,c⟩⟩,a,b⟩
 . dsimp only at a b
   have i_len:=zbc length a;simp only[zbp,ib] at i_len;refine zg ?_
   repeat' ((first|refine zf ?_|(refine zp ?_ ?_<;>first|exact⟨⟩|intro h))<;>refine zg ?_)
   . (refine⟨⟨(m+1,[(m:Int)]),(by rw[u4,<-a];rfl),aa⟩,zH,rfl,bH⟩)
   all_goals (exfalso;omega)
 . dsimp only at a b
   have i_len:=zbc length a;simp only[zbd,ib] at i_len;refine zg ?_
   repeat' ((first|refine zf ?_|(refine Rq.mk (eP 8 100001 ag rfl rfl lQ ab) ?_)|(refine zp ?_ ?_<;>intro h))<;>refine zg ?_)
   . (refine⟨⟨(m+1,y::(c++[(m:Int)])),(by rw[u4,<-a];rfl),aa⟩,zH,rfl,bH⟩)
   . have e : n = m := aa
     refine⟨1000,_,rfl,?_,?_⟩
     . rw[e,<-a];simp
     . rw[e,<-a];rfl
attribute [local irreducible] cR ee bP aQ bM aI.has Hd.of
attribute [local irreducible] du ct aL cE dE dm dR dL bU dw dG bK bn bB eh eo
theorem gk.len {C:List Ins}{o:List Int}{d:Cd}{q:Nat}{f:q<d.b.l.length}{g:Gr}{X:List Hd}(h:gk (bM C o g) X)(c:cZ d (q:Int) g):X.length=d.b.l[q].ins.l.length+1:=by
 obtain⟨⟨j,rfl⟩,_⟩:=h;have a:g.ins.l=d.b.l[q].ins.l:=by obtain⟨_,e,_⟩:=c;grind
 rw[uN,kT,a]
def kM (h:Hd)(N m:Nat):List (List Int):=(List.range m).map fun l:Nat=>(a_ N).filter (h.of (l:Int)).has
theorem Tk {h N}:kM h N 0=[]:=rfl
theorem HJ {h:Hd}{N m:Nat}:kM h N (m+1)=kM h N m++[(a_ N).filter (h.of (m:Int)).has]:=by unfold kM;rw[zcW,zb9];rfl
theorem xk {h:Hd}{N m:Nat}:(kM h N m).length=m:=by simp[kM]
theorem Km {h:Hd}:an.dT (.arr 3 [h.row]):=rfl
theorem Lk {H:aj}{k L:Nat}{a t:List Int}(c:L=a.length)(b:H.get k=some (.arr 1 ((a++t).map ic))):snap H 20 (.ay k 0 L 1)=some (aT a):=by
 subst c;refine oZ b ag ?_;rw[zcV,zb9,take_append_of_le_length ag,zbj ag];exact Cw
theorem fp.R4 {c d:Cd}{f:List (List Int)}(h:fp c d f){q:Nat}(i:q<c.b.l.length)(n:q<d.b.l.length)(o:q<f.length){g:Gr}{X:List Hd}(m:cZ d (q:Int) g)(k:gk (bM c.b.l[q].ins.l f[q] g) X)(p:Nat):(X.getD p cb).iP:=by
 obtain⟨e,a,_⟩:=h.fit _ n _ g m;obtain⟨⟨j,rfl⟩,_⟩:=k;exact((xw e a).get p).kd (h.rn _)
attribute [local irreducible] kM
theorem B6 (c d:Cd)(v:List (List Int))(q pl:Nat)(i:fp c d v)(F:bK c.b.l≤100000)(Z:bU c=0)(Q:bU d=0)(u:q<c.b.l.length)(j:q<d.b.l.length)(w:q<v.length)(hpl:pl≤d.b.l[q].ins.l.length)(T:0<c.b.l[q].ah)(Y:0<d.b.l[q].ah∧d.b.l[q].ah≤1000) :
 af 17 [c.av,d.av,.agg [.ak 1 (v.map cx)],i64 q,i64 pl] (fun H=>∃g X,H = .ret (.ao [.ak 1 ((kM (X.getD pl cb) c.b.l[q].ah.toNat d.b.l[q].ah.toNat).map cx),i64 0])∧cZ d q g∧gk (bM c.b.l[q].ins.l v[q] g) X):=by
 have I:bK d.b.l≤100000:=zbu i.hs aa;have V:=i.co.lc;have hlo:=i.co.lo;have hnb:=i.nb;have hcr:=i.hr _ (za9 u);have B:∀l∈v,l.length≤2000:=fun l U=>by
  obtain⟨q,S,rfl⟩:=zbo.1 U;have j:q<d.b.l.length:=aa;rw[i.co.ol q j S];exact i.ld j
 have E:c.b.l[q].ah=((c.b.l[q].ah.toNat:Nat):Int):=aa;refine zw func17 ?_;refine zk ?_
 repeat' ((first|refine az.mk _ (Kq (n:=pl) aa) ?_|(refine zp ?_ ?_<;>first|exact⟨⟩|intro h)|refine az.mk _ (bO aa) ?_|(refine DC.pure rfl (iW c F) ?_;rintro _ rfl)|(refine DC.pure rfl (iW d I) ?_;rintro _ rfl)|(refine zh rfl (H8 c q) ?_;rintro _ (⟨rfl,C⟩|⟨rfl,C⟩))|(refine zh rfl (H8 d q) ?_;rintro _ (⟨rfl,C⟩|⟨rfl,C⟩))|(refine DC.pure rfl (Gf c d v i.co i.hc i.hd B aa) ?_;rintro _ rfl)|refine zd func30 ?_|refine zd func61 ?_|(refine zh rfl (i.holds u j w) ?_;rintro _ ⟨g,X,rfl,D,A⟩;have hXl:X.length=d.b.l[q].ins.l.length+1:=gk.len A D))<;>refine zk ?_)
 have x:=i.R4 u j w D A pl;have G:(a_ c.b.l[q].ah.toNat).length=c.b.l[q].ah.toNat:=ib _;have s:a_ c.b.l[q].ah.toNat≠[]:=fun e=>by rw[e,zbp] at G;omega
 have r:cM 45 [i64 c.b.l[q].ah] .nil 0 (fun H J _=>∃K m,H = .ret (.ay K 0 m 1)∧m=(a_ c.b.l[q].ah.toNat).length∧J.get K=some (.arr 1 ((a_ c.b.l[q].ah.toNat).map ic))):=by
  have:=Wx c.b.l[q].ah.toNat aa aa;rw[<-E] at this;exact this
 refine DW.VA aC aD [5,8,10,11,15,48] [] 4000 (fun z:{z:Nat×List (List Int) // z.2=kM (X.getD pl cb) c.b.l[q].ah.toNat z.1∧z.1≤d.b.l[q].ah.toNat}=>[(49,i64 z.1.1),(16,fu 2000 1 (z.1.2.map cx))]) (fun z=>fq 2000 1 (z.1.2.map cx)) [(2000,.slot 16)] (fun z=>d.b.l[q].ah.toNat+1 - z.1.1) (⟨(0,[]),Tk.symm,zbq _⟩) ?_
 conv=>whnf
 refine⟨?_,fun z=>?_⟩
 . conv => whnf
   repeat' apply And.intro
   all_goals first|exact True.intro|rfl
 rcases z with⟨⟨m,o⟩,y,N⟩
 dsimp only at y N;have z_len:=zbc length y;rw[xk] at z_len;rcases o with _|⟨R,o⟩
 . simp only [zbp] at z_len
   refine zg ?_
   repeat' ((first|refine zf ?_|(refine zp ?_ ?_<;>first|exact⟨⟩|intro h)|refine DC.CF rfl r vP ab ?_|(refine DC.G_ (k:=_) (l:=_) (m:=_) (Gi (X.getD pl cb) x (m:Nat) (a_ c.b.l[q].ah.toNat) s aa) rfl rfl ab ab ab rfl rfl rfl iY Km rfl ?_;rintro _ J _ ⟨t,rfl,M,L,O⟩;refine⟨_,_,_,rfl,_,M,L,O,iY,?_⟩))<;>refine zg ?_)
   . refine⟨⟨(m+1,[((a_ c.b.l[q].ah.toNat).filter ((X.getD pl cb).of (m:Int)).has)]),(by rw[HJ,<-y];rfl),aa⟩,_,mU.z 4097 (.arr 1 ((((a_ c.b.l[q].ah.toNat).filter ((X.getD pl cb).of (m:Int)).has)++t).map ic)) [(5,_),(8,_),(10,_),(11,_),(15,_),(48,_),(49,_),(16,_)] [(0,_),(1,_),(2,_),(3,_),(4,_),(11,_),(59,_),(70,_),(4095,(.arr 1 (cx ((a_ c.b.l[q].ah.toNat).filter ((X.getD pl cb).of (m:Int)).has)::List.map cx [])))] rfl ⟨⟨_,rfl,.inl rfl⟩,⟨_,rfl,.inl rfl⟩,⟨_,rfl,.inl rfl⟩,⟨_,rfl,.inl rfl⟩,⟨_,rfl,.inl rfl⟩,⟨_,rfl,.inl rfl⟩,⟨_,rfl,.inl rfl⟩,⟨_,rfl,.inl rfl⟩,trivial⟩ ⟨⟨ab,_,rfl,.inl rfl⟩,⟨ab,_,rfl,.inl rfl⟩,⟨ab,_,rfl,.inl rfl⟩,⟨ab,_,rfl,.inl rfl⟩,⟨ab,_,rfl,.inl rfl⟩,⟨ab,_,rfl,.inl rfl⟩,⟨ab,_,rfl,.inl rfl⟩,⟨ab,_,rfl,.inl rfl⟩,⟨ab,_,rfl,Hg (pre:=[]) rfl rfl (.inr (Lk (a:=((a_ c.b.l[q].ah.toNat).filter ((X.getD pl cb).of (m:Int)).has)) (t:=t) rfl rfl))⟩,trivial⟩,(by(conv=>whnf);(repeat' first|exact True.intro|apply And.intro|rfl|(refine cw ?_ ?_ ?_<;>(try dsimp only)<;>omega))),rfl,eY⟩
   all_goals (exfalso;omega)
 . simp only [zbd] at z_len
   refine zg ?_
   repeat' ((first|refine zf ?_|(refine Rq.mk (eP 24 2000 ag rfl rfl zaZ ab) ?_)|(refine zp ?_ ?_<;>intro h)|refine DC.CF rfl r vP ab ?_|(refine DC.G_ (k:=_) (l:=_) (m:=_) (Gi (X.getD pl cb) x (m:Nat) (a_ c.b.l[q].ah.toNat) s aa) rfl rfl ab ab ab rfl rfl rfl iY Km rfl ?_;rintro _ J _ ⟨t,rfl,M,L,O⟩;refine⟨_,_,_,rfl,_,M,L,O,iY,?_⟩))<;>refine zg ?_)
   . refine⟨⟨(m+1,R::(o++[((a_ c.b.l[q].ah.toNat).filter ((X.getD pl cb).of (m:Int)).has)])),(by rw[HJ,<-y];rfl),aa⟩,_,mU.z 4097 (.arr 1 ((((a_ c.b.l[q].ah.toNat).filter ((X.getD pl cb).of (m:Int)).has)++t).map ic)) [(5,_),(8,_),(10,_),(11,_),(15,_),(48,_),(49,_),(16,_)] [(0,_),(1,_),(2,_),(3,_),(4,_),(11,_),(59,_),(70,_),(4095,(.arr 1 (cx R::List.map cx (o++[((a_ c.b.l[q].ah.toNat).filter ((X.getD pl cb).of (m:Int)).has)]))))] rfl ⟨⟨_,rfl,.inl rfl⟩,⟨_,rfl,.inl rfl⟩,⟨_,rfl,.inl rfl⟩,⟨_,rfl,.inl rfl⟩,⟨_,rfl,.inl rfl⟩,⟨_,rfl,.inl rfl⟩,⟨_,rfl,.inl rfl⟩,⟨_,rfl,.inl rfl⟩,trivial⟩ ⟨⟨ab,_,rfl,.inl rfl⟩,⟨ab,_,rfl,.inl rfl⟩,⟨ab,_,rfl,.inl rfl⟩,⟨ab,_,rfl,.inl rfl⟩,⟨ab,_,rfl,.inl rfl⟩,⟨ab,_,rfl,.inl rfl⟩,⟨ab,_,rfl,.inl rfl⟩,⟨ab,_,rfl,.inl rfl⟩,⟨ab,_,rfl,Hg (RP ag) X_ (.inr (Lk (a:=((a_ c.b.l[q].ah.toNat).filter ((X.getD pl cb).of (m:Int)).has)) (t:=t) rfl rfl))⟩,trivial⟩,(by(conv=>whnf);(repeat' first|exact True.intro|apply And.intro|rfl|exact dX aB aB tu aB|exact eg (f:=cx) (fun _=>by rfl)|exact c_ (f:=cx) (fun _=>by rfl)|(refine cw ?_ ?_ ?_<;>(try dsimp only)<;>omega))),rfl,eY⟩
   . generalize P : snap _ 20 _ = rr
     obtain rfl:=P.symm.trans (o3 (n:=19) (gW (f:=cx) (n:=18) (fun _=>rfl) rfl) rfl)
     conv=>whnf
     exact⟨g,X,by rw[show d.b.l[q].ah.toNat=m by omega,<-y];rfl,D,A⟩
end Go.Ago
end
