/-
  Part C03: lemmas, each with its own conditions.
-/
import Derived.Test.YthaolifcglpkdaaGreatDoorB48
import Derived.Test.YthaolifcglpkdaaGreatDoorC02
set_option maxRecDepth 100000
set_option maxHeartbeats 0
set_option linter.all false
section
namespace Go.Ago
open Go.Proofs List Nat Tryz
theorem Oc (c:Cd)(k:Int)(b:dS c 500 60)(f:4≤k∧k≤16)(e:bU c=0):∃d a,af 11 [c.av,i64 k] (fun h=>h = .ret (.ao [d.av,.agg [.ak 1 (a.map cx)],i64 0]))∧mG c k d a:=by
 obtain⟨_,i,d,a,rfl,g⟩:=Oe c k b f e;exact⟨d,a,⟨_,i,rfl⟩,g⟩
end Go.Ago
namespace Go.Ago
open Go.Proofs List Nat Tryz
attribute [local irreducible] bA bw aV bp bG wr aZ bF comp DC DP DW DV
attribute [local irreducible] cR ee bP aQ bM kM
attribute [local irreducible] du ct aL cE dE dm dR dL bU dw dG bK bn bB eh eo
theorem PW (c:Cd)(k l g f e:Int)(a:af 6 [] (fun d=>d = .ret (.bool true)))(i:¬dS c 250 60):af 5 [c.av,i64 k,i64 l,i64 g,i64 f,i64 e] (fun d=>d = .ret (.bool true)):=by
 have m:af 7 [c.av,i64 250,i64 60] (fun d=>d = .ret (.bool false)):=(nQ c 250 60 ab).mono fun _ h=>by
  obtain⟨b,rfl,n⟩:=h;cases b with
  | false=>rfl
  | true=>exact absurd (n rfl) i
 refine zw func5 ?_;refine zg ?_
 repeat' ((first|(refine DC.pure rfl (a) ?_;rintro _ rfl)|(refine DC.pure rfl (m) ?_;rintro _ rfl))<;>refine zg ?_)
 all_goals exact⟨⟩
theorem PS (c:Cd)(k o m f g:Int)(a:af 6 [] (fun j=>j = .ret (.bool true)))(e:dS c 250 60)(p:¬(bU c=0∧4≤k∧k≤16)):af 5 [c.av,i64 k,i64 o,i64 m,i64 f,i64 g] (fun j=>j = .ret (.bool true)):=by
 have i:bK c.b.l≤100000:=by have:=e.sum;omega
 have d:=iW c i
 generalize bU c=q at d p
 refine zw func5 ?_;refine zg ?_
 repeat' ((first|(refine zp ?_ ?_<;>first|exact⟨⟩|intro h)|(refine DC.pure rfl (a) ?_;rintro _ rfl)|(refine DC.pure rfl (nQ c 250 60 ab) ?_;rintro _ ⟨b,rfl,r⟩)|(refine DC.pure rfl (d) ?_;rintro _ rfl))<;>refine zg ?_)
 all_goals exact⟨⟩
theorem PX (c d:Cd)(m:List (List Int))(k s n o r:Int)(f:af 6 [] (fun j=>j = .ret (.bool true)))(e:dS c 250 60)(q:bU c=0)(v:4≤k∧k≤16)(g:af 11 [c.av,i64 k] (fun j=>j = .ret (.ao [d.av,.agg [.ak 1 (m.map cx)],i64 0])))(a:mG c k d m)(z:¬(0≤s∧s<d.b.l.length)):af 5 [c.av,i64 k,i64 s,i64 n,i64 o,i64 r] (fun j=>j = .ret (.bool true)):=by
 have A:=e.sum;have t:dS c 500 60:=⟨e.nb,e.ah,e.fH,aa⟩;have w:=e.nb;have p:=e.pr aa a.ck (by have:=a.sum;omega)
 have y:=a.ck.co.lo;have x:=a.ck.co.lc;have i:=pK c d k m p aa v q a.ok a.ck;refine zw func5 ?_;refine zg ?_
 repeat' ((first|(refine zp ?_ ?_<;>first|exact⟨⟩|intro h)|(refine DC.pure rfl (f) ?_;rintro _ rfl)|(refine DC.pure rfl (nQ c 250 60 ab) ?_;rintro _ ⟨b,rfl,B⟩)|(refine DC.pure rfl (iW c aa) ?_;rintro _ rfl)|(refine DC.pure rfl (g) ?_;rintro _ rfl)|(refine DC.pure rfl (i) ?_;rintro _ rfl))<;>refine zg ?_)
 all_goals exact⟨⟩
theorem PQ (c d:Cd)(p:List (List Int))(k g t s:Int)(q:Nat)(m:q<d.b.l.length)(f:af 6 [] (fun i=>i = .ret (.bool true)))(e:dS c 250 60)(r:bU c=0)(x:4≤k∧k≤16)(n:af 11 [c.av,i64 k] (fun i=>i = .ret (.ao [d.av,.agg [.ak 1 (p.map cx)],i64 0])))(a:mG c k d p)(hn:¬(0≤g∧g<d.b.l[q].ins.l.length)):af 5 [c.av,i64 k,i64 q,i64 g,i64 t,i64 s] (fun i=>i = .ret (.bool true)):=by
 have hs:=e.sum;have v:dS c 500 60:=⟨e.nb,e.ah,e.fH,aa⟩;have z:=e.nb;have j:=e.pr aa a.ck (by have:=a.sum;omega)
 have hlo:=a.ck.co.lo;have y:=a.ck.co.lc;have o:=pK c d k p j aa x r a.ok a.ck;have u:q<p.length:=aa;have hqc:q<c.b.l.length:=aa;have hol:=a.ck.co.ol q m u;have hdl:=j.ld m;refine zw func5 ?_;refine zg ?_
 repeat' ((first|(refine zp ?_ ?_<;>first|exact⟨⟩|intro h)|(refine DC.pure rfl (f) ?_;rintro _ rfl)|(refine DC.pure rfl (nQ c 250 60 ab) ?_;rintro _ ⟨b,rfl,hb⟩)|(refine DC.pure rfl (iW c aa) ?_;rintro _ rfl)|(refine DC.pure rfl (n) ?_;rintro _ rfl)|(refine DC.pure rfl (o) ?_;rintro _ rfl))<;>refine zg ?_)
 all_goals exact⟨⟩
theorem FC (c d:Cd)(f:List (List Int))(k v g:Int)(q p:Nat)(o:q<d.b.l.length)(F:p<d.b.l[q].ins.l.length)(i:af 6 [] (fun j=>j = .ret (.bool true)))(e:dS c 250 60)(t:bU c=0)(B:4≤k∧k≤16)(n:af 11 [c.av,i64 k] (fun j=>j = .ret (.ao [d.av,.agg [.ak 1 (f.map cx)],i64 0])))(a:mG c k d f)(w:∀h:q<f.length,∀I:p<f[q].length,f[q][p]<0∨¬(0≤g∧g<k)):af 5 [c.av,i64 k,i64 q,i64 p,i64 v,i64 g] (fun j=>j = .ret (.bool true)):=by
 have J:=e.sum;have y:dS c 500 60:=⟨e.nb,e.ah,e.fH,aa⟩;have z:=e.nb;have m:=e.pr aa a.ck (by have:=a.sum;omega)
 have G:=a.ck.co.lo;have A:=a.ck.co.lc;have r:=pK c d k f m aa B t a.ok a.ck;have s:q<f.length:=aa;have D:q<c.b.l.length:=aa;have E:=a.ck.co.ol q o s;have C:=m.ld o;have u:p<f[q].length:=aa;have w:=w s u;refine zw func5 ?_;refine zg ?_
 repeat' ((first|(refine zp ?_ ?_<;>first|exact⟨⟩|intro h)|(refine DC.pure rfl (i) ?_;rintro _ rfl)|(refine DC.pure rfl (nQ c 250 60 ab) ?_;rintro _ ⟨b,rfl,H⟩)|(refine DC.pure rfl (iW c aa) ?_;rintro _ rfl)|(refine DC.pure rfl (n) ?_;rintro _ rfl)|(refine DC.pure rfl (r) ?_;rintro _ rfl))<;>refine zg ?_)
 all_goals exact⟨⟩
theorem PV (c d:Cd)(r:List (List Int))(k g j:Int)(q p n:Nat)(i:q<d.b.l.length)(A:p<d.b.l[q].ins.l.length)(m:af 6 [] (fun v=>v = .ret (.bool true)))(f:dS c 250 60)(z:bU c=0)(E:4≤k∧k≤16)(u:af 11 [c.av,i64 k] (fun v=>v = .ret (.ao [d.av,.agg [.ak 1 (r.map cx)],i64 0])))(e:mG c k d r)(t:q<r.length)(w:q<c.b.l.length)(H:p<r[q].length)(y:n<c.b.l[q].ins.l.length)(h0:r[q][p]=(n:Int))(s:SimI c.b.l[q].ins.l[n] d.b.l[q].ins.l[p])(B:0≤j∧j<k)(Q:¬(g=0∧0≤d.b.l[q].ins.l[p].a)∧¬(g=1∧0≤d.b.l[q].ins.l[p].b)∧¬(2≤g∧g<2+(d.b.l[q].ins.l[p].l.l.length:Int))):af 5 [c.av,i64 k,i64 q,i64 p,i64 g,i64 j] (fun v=>v = .ret (.bool true)):=by
 have O:=f.sum;have D:dS c 500 60:=⟨f.nb,f.ah,f.fH,aa⟩;have G:=f.nb;have o:=f.pr aa e.ck (by have:=e.sum;omega)
 have I:=e.ck.co.lo;have J:=e.ck.co.lc;have x:=pK c d k r o aa E z e.ok e.ck;have M:=e.ck.co.ol q i t;have F:=o.ld i;have N:=zbu (ki (za9 w)) O;have K:=s.l;have R:=o.uP w i t _ (za9 A);have L:wr .i64 (2+(d.b.l[q].ins.l[p].l.l.length:Int))=2+(d.b.l[q].ins.l[p].l.l.length:Int):=by rw[aE aa aa]
 refine zw func5 ?_;refine zk ?_
 repeat' ((first|refine az.mk _ (kS y h0) ?_|(refine zp ?_ ?_<;>first|exact⟨⟩|intro h)|refine az.mk _ (bO aa) ?_|(refine DC.pure rfl (m) ?_;rintro _ rfl)|(refine DC.pure rfl (nQ c 250 60 ab) ?_;rintro _ ⟨b,rfl,P⟩)|(refine DC.pure rfl (iW c aa) ?_;rintro _ rfl)|(refine DC.pure rfl (u) ?_;rintro _ rfl)|(refine DC.pure rfl (x) ?_;rintro _ rfl))<;>refine zk ?_)
 all_goals exact⟨⟩
abbrev Ins.wa (i:Ins)(r:Int):Ins:={ i with a:=r }
abbrev Ins.wb (i:Ins)(r:Int):Ins:={ i with b:=r }
abbrev Ins.wl (i:Ins)(l:BL Int):Ins:={ i with l:=l }
abbrev Ins.ws (i:Ins)(f:Nat)(r:Int):Ins:=i.wl ⟨i.l.l.set f r,by rw[zbP];exact i.l.h⟩
theorem R7 {k c:Int}{i:Ins}(h:j2 k i)(f:c<k):j2 k (i.wa c):=by
 rcases Bt h with⟨a,e,b⟩|⟨d,a,e,b⟩|⟨d,a,e,b⟩|⟨d,a,e,b⟩
 . exact rR a f b
 . exact .inr ⟨by grind,d⟩
 . exact rR a f b
 . exact .inr ⟨by grind,d⟩
theorem R8 {k b:Int}{i:Ins}(h:j2 k i)(f:b<k):j2 k (i.wb b):=by
 rcases Bt h with⟨a,c,e⟩|⟨d,a,c,e⟩|⟨d,a,c,e⟩|⟨d,a,c,e⟩
 . exact rR a c f
 . exact .inr ⟨by grind,d⟩
 . exact .inr ⟨by grind,d⟩
 . exact rR a c f
theorem YT {x y:Ins}{c:Int}(h:SimI x y)(h0:0≤y.a)(f:0≤c):SimI x (y.wa c):=by
 have g:=h.a;exact⟨by have:=h.eq;rw[this],h.n,h.m,h.d,.inr ⟨aa,f⟩,h.b,h.l⟩
theorem Ld {x y:Ins}{c:Int}(h:SimI x y)(h0:0≤y.b)(f:0≤c):SimI x (y.wb c):=by
 have g:=h.b;exact⟨by have:=h.eq;rw[this],h.n,h.m,h.d,h.a,.inr ⟨aa,f⟩,h.l⟩
theorem YW {x y:Ins}{l:BL Int}(h:SimI x y)(e:l.l.length=y.l.l.length):SimI x (y.wl l):=
 ⟨by have:=h.eq;rw[this],h.n,h.m,h.d,h.a,h.b,e.trans h.l⟩
theorem AN {c d:Cd}{h:List (List Int)}{k:Int}{q p n:Nat}(a:fp c d h)(u:bK c.b.l≤100000)(F:4≤k∧k≤16)(w:bU c=0)(s:bU d=0)(P:q9 k d)(t:q<c.b.l.length)(y:q<d.b.l.length)(G:q<h.length)(o:p<d.b.l[q].ins.l.length)(E:n<c.b.l[q].ins.l.length)(A:p<h[q].length)(z:h[q][p]=(n:Int))
 {i:Ins}(C:mO d.b.l[q].ins.l[p] i)(v:SimI c.b.l[q].ins.l[n] i)(hi:j2 k i){g:Gr}{X:List Hd}(H:cZ d (q:Int) g)(N:gk (bM c.b.l[q].ins.l h[q] g) X){m:Nat}{l r:Int}(Q:(aQ i)[m]? = some l)(I:(aQ c.b.l[q].ins.l[n])[m]? = some r)(J:((X.getD p cb).of l).has r=false) :
 af 15 [c.av,i64 k,(dY d q p d.b.l[q] i).av,.agg [.ak 1 (h.map cx)]] (fun K=>∃x,K = .ret (i64 x)∧x≠0):=by
 have D:bK (dY d q p d.b.l[q] i).b.l=bK d.b.l:=ZU y;have M:=a.hs
 by_cases f:bU (dY d q p d.b.l[q] i)=0
 . have O : cJ (dY d q p d.b.l[q] i) := (uh _ fun m => zbu sH aa).1 f
   have j:h[q].getD p 0=(n:Int):=by rw[ej A];exact z
   have B:fp c (dY d q p d.b.l[q] i) h:=⟨a.hc,O,ZQ a.co t y G o E j C v,aa,a.hr,a.hl,a.nb⟩;refine(FI c _ k h B u F w f (ZR P y hi)).mono ?_
   rintro _ ⟨e,rfl,R⟩
   exact⟨e,rfl,fun L=>ZS s t y G o E j C f H N Q I J (R.1 L)⟩
 . exact(Qd c _ k h u aa F w f).mono (by rintro _ rfl;exact⟨_,rfl,f⟩)
theorem DB {l:List Ins}{p:Nat}{i:Ins}:(l.map Ins.cells).set (0+((p:Int)).toNat) i.cells=(l.set p i).map Ins.cells:=ag
theorem BM {nm sz:Nat}{o:an}{L es g:List (List AV)}{q:Nat}{a x y:AV}(m:es=L.set q [a,x])(n:g=L.set q [a,y])(h:fC nm o x y):iu nm o (.arr sz es) (.arr sz g):=by
 subst m n;refine .inr ⟨sz,_,_,rfl,rfl,ag,fun i f d=>?_⟩
 by_cases e:i=q
 . subst e
   have k:i<L.length:=by have:=(zbn.1 d).1;simpa using this
   rw[zci k] at d;cases d;refine⟨_,zci k,rfl,fun j b c=>?_⟩
   match j,c with
   | 0,c=>cases c;exact⟨_,rfl,.inl rfl⟩
   | 1,c=>cases c;exact⟨_,rfl,h⟩
   | j+2,c=>simp at c
 . rw [zbV fun x => e x.symm] at d
   exact⟨f,by rw[zbV fun x=>e x.symm];exact d,rfl,fun j b c=>⟨b,c,.inl rfl⟩⟩
theorem ym {nm:Nat}{o:an}{k:Nat}{b:an}(e:(Tr.put nm (some o) Tr.nil:aj).get k=some b):k=nm∧b=o:=by
 rw[Tr.get] at e;cases a:beq k nm with
 | true=>simp_all
 | false=>rw[a] at e;cases e
theorem D0 {d:Cd}{q p:Nat}{i:Ins}{b:Bd}:(dY d q p b i).b.l.map Bd.cells=(d.b.l.map Bd.cells).set (0+((q:Int)).toNat) [i64 b.ah,mc (b.ins.l.set p i)]:=by
 simp[dY];rfl
theorem CY {L:List (List AV)}{r:List AV}{z:Int}{n:Nat}(a:z=(n:Int))(h:n<L.length):(L.set (0+z.toNat) r)[0+z.toNat]? = some r:=by
 grind
theorem B7 {h:Hd}{N M:Nat}{a:Int}(h0:0≤a)(c:a<(M:Int)):((kM h N M).map cx)[a.toNat]? = some [aT ((a_ N).filter (h.of a).has)]:=by
 have b:a.toNat<M:=aa;unfold kM
 grind
theorem B8 {h:Hd}{N:Nat}{a w:Int}(c:0≤w∧w<(N:Int))(b:w∉(a_ N).filter (h.of a).has):(h.of a).has w=false:=by
 cases e:(h.of _).has w with
 | false=>rfl
 | true=>exact absurd (zbY.2 ⟨sq.2 c,e⟩) b
theorem BB {N:Int}{P:Int->Bool}(h:0≤N∧N≤60):((a_ N.toNat).filter P).length<281474976710656:=by
 have:=zc4 P (a_ N.toNat);rw[ib] at *;omega
theorem PO (c d:Cd)(A:List (List Int))(k I r:Int)(q p n:Nat)(m:q<d.b.l.length)(s:p<d.b.l[q].ins.l.length)(D:af 6 [] (fun J=>J = .ret (.bool true)))(u:dS c 250 60)(E:bU c=0)(V:4≤k∧k≤16)(H:af 11 [c.av,i64 k] (fun J=>J = .ret (.ao [d.av,.agg [.ak 1 (A.map cx)],i64 0])))(j:mG c k d A)(B:q<A.length)(t:q<c.b.l.length)(N:p<A[q].length)(C:n<c.b.l[q].ins.l.length)(h0:A[q][p]=(n:Int))(y:SimI c.b.l[q].ins.l[n] d.b.l[q].ins.l[p])(v:0≤r∧r<k)(T:I=0∧0≤d.b.l[q].ins.l[p].a):af 5 [c.av,i64 k,i64 q,i64 p,i64 I,i64 r] (fun J=>J = .ret (.bool true)):=by
 have hs:=u.sum;have Y:dS c 500 60:=⟨u.nb,u.ah,u.fH,aa⟩;have hnb:=u.nb;have z:=u.pr aa j.ck (by have:=j.sum;omega)
 have hlo:=j.ck.co.lo;have hlc:=j.ck.co.lc;have F:=pK c d k A z aa V E j.ok j.ck;have hol:=j.ck.co.ol q m B;have hdl:=z.ld m;have hcl:=zbu (ki (za9 t)) hs;have hll:=y.l;have hL:=z.uP t m B _ (za9 s);have hw2:wr .i64 (2+(d.b.l[q].ins.l[p].l.l.length:Int))=2+(d.b.l[q].ins.l[p].l.l.length:Int):=by rw[aE aa aa]
 have O:0≤c.b.l[q].ah∧c.b.l[q].ah≤60:=⟨(jw j.ck.hc.ok t).1,u.ah _ (za9 t)⟩;have P:0<d.b.l[q].ah∧d.b.l[q].ah≤1000:=by have:=(j.ck.hf _ (za9 m)).1;have:=j.ah _ (za9 m);omega
 have hdk:=(j.ck.hf _ (za9 m)).1;have R:d.b.l≠[]:=fun e=>by rw[e] at m;exact absurd m (zbK _)
 have G:d.b.l[q].ins.l≠[]:=fun e=>by rw[e] at s;exact absurd s (zbK _)
 have L:=j.ck.hc.gQ t _ (za9 C);have Q:=j.ck.hd.gQ m _ (za9 s);have K:=(j.ck.hf _ (za9 m)).2 _ (za9 s);have M:0≤c.b.l[q].ins.l[n].a:=by have:=y.a;omega
 have hab:=L.a;have S:0<c.b.l[q].ah:=aa;refine zw func5 ?_;refine zk ?_
 repeat' ((first|refine az.mk _ (kS C h0) ?_|(refine DC.pure rfl (B6 c d A q p z aa E j.ok t m B aa S P) ?_;rintro _ ⟨g,X,rfl,hg,hX⟩;have hrl:=@xk (X.getD p cb) c.b.l[q].ah.toNat d.b.l[q].ah.toNat)|refine az.mk _ (B7 v.1 aa) ?_|refine bR (mj m rfl) ?_|refine bR (mj s rfl) ?_|(refine bR (CY (n:=q) rfl (by rw[zba];exact m)) ?_)|(refine zp ?_ ?_<;>first|exact⟨⟩|intro h)|refine az.mk _ (bO aa) ?_|(refine DC.pure rfl (D) ?_;rintro _ rfl)|(refine DC.pure rfl (nQ c 250 60 ab) ?_;rintro _ ⟨b,rfl,hb⟩)|(refine DC.pure rfl (iW c aa) ?_;rintro _ rfl)|(refine DC.pure rfl (H) ?_;rintro _ rfl)|(refine DC.pure rfl (F) ?_;rintro _ rfl)|(refine DC.pure rfl (A4 ⟨(a_ c.b.l[q].ah.toNat).filter ((X.getD p cb).of r).has,BB O⟩ c.b.l[q].ins.l[n].a) ?_;rintro _ (⟨rfl,Z⟩|⟨rfl,Z⟩))|refine DC.new rfl (rA d.b.l R aa) ry ab ?_|refine DC.new rfl (kb d.b.l[q].ins.l G aa) kg ab ?_)<;>refine zk ?_)
 all_goals first|exact⟨⟩|skip
 refine DC.rT (nm:=221) (args2:=[c.av,i64 k,.agg (d.p.cells++[.ay 209 0 d.b.l.length 2]),.agg [.ak 1 (A.map cx)]]) (o := .arr 29 ((d.b.l[q].ins.l.set p (d.b.l[q].ins.l[p].wa r)).map Ins.cells)) (H2 := .put 209 (some (.arr 2 ((dY d q p d.b.l[q] (d.b.l[q].ins.l[p].wa r)).b.l.map Bd.cells))) .nil) (zbc (fun es=>some (an.arr 29 es)) (DB (l:=d.b.l[q].ins.l) (p:=p) (i:=(d.b.l[q].ins.l[p].wa r)))) ⟨.inl rfl,.inl rfl,.inl rfl,.inl rfl,trivial⟩ (fun k' b' e=>?_) ?_
 . obtain ⟨rfl, rfl⟩ := ym e
   exact⟨ab,_,rfl,BM rfl D0 (.inr (fj (f:=Ins.cells) (n:=19) (fun _=>rfl) rfl rfl (by rw[zbP])))⟩
 refine DC.rS (nm:=209) (args2:=[c.av,i64 k,(dY d q p d.b.l[q] (d.b.l[q].ins.l[p].wa r)).av,.agg [.ak 1 (A.map cx)]]) rfl ⟨.inl rfl,.inl rfl,.inr (lM (n:=19) (da rfl (da rfl (da rfl (da rfl (da rfl (da rfl (da (fj (f:=Bd.cells) (n:=18) (fun _=>rfl) rfl rfl nS.symm) rfl)))))))),.inl rfl,trivial⟩ ?_
 refine DC.pure rfl (AN z aa V E j.ok j.ck.hf t m B s C N h0 ⟨rfl,rfl,rfl,rfl,rfl⟩ (YT y T.2 v.1) (R7 K v.2) hg hX (NC (i:=(d.b.l[q].ins.l[p].wa r)) v.1 (Q.fa T.2)) (NC M (L.fa M)) (B8 (w:=c.b.l[q].ins.l[n].a) aa Z)) ?_
 rintro _ ⟨x,rfl,hx⟩
 refine zg ?_
 repeat' (((refine zp ?_ ?_<;>first|exact⟨⟩|intro h))<;>refine zg ?_)
 all_goals exact⟨⟩
theorem Tl {P Q:Prop}[Decidable P][Decidable Q](h:P↔Q):(if P then 1 else 0:Nat)=if Q then 1 else 0:=by
 grind
theorem YV {x y:Ins}(h:SimI x y):(hasB x.op 65=true∧x.a≠-1)↔(hasB y.op 65=true∧y.a≠-1):=by
 have b:=h.a;rw[h.op]
 grind
theorem PR (c d:Cd)(z:List (List Int))(k H m:Int)(q p n:Nat)(j:q<d.b.l.length)(s:p<d.b.l[q].ins.l.length)(C:af 6 [] (fun I=>I = .ret (.bool true)))(t:dS c 250 60)(D:bU c=0)(U:4≤k∧k≤16)(G:af 11 [c.av,i64 k] (fun I=>I = .ret (.ao [d.av,.agg [.ak 1 (z.map cx)],i64 0])))(a:mG c k d z)(A:q<z.length)(u:q<c.b.l.length)(M:p<z[q].length)(B:n<c.b.l[q].ins.l.length)(h0:z[q][p]=(n:Int))(v:SimI c.b.l[q].ins.l[n] d.b.l[q].ins.l[p])(r:0≤m∧m<k)(R:H=1∧0≤d.b.l[q].ins.l[p].b):af 5 [c.av,i64 k,i64 q,i64 p,i64 H,i64 m] (fun I=>I = .ret (.bool true)):=by
 have hs:=t.sum;have T:dS c 500 60:=⟨t.nb,t.ah,t.fH,aa⟩;have hnb:=t.nb;have y:=t.pr aa a.ck (by have:=a.sum;omega)
 have hlo:=a.ck.co.lo;have hlc:=a.ck.co.lc;have E:=pK c d k z y aa U D a.ok a.ck;have Z:=a.ck.co.ol q j A;have hdl:=y.ld j;have hcl:=zbu (ki (za9 u)) hs;have hll:=v.l;have hL:=y.uP u j A _ (za9 s);have hw2:wr .i64 (2+(d.b.l[q].ins.l[p].l.l.length:Int))=2+(d.b.l[q].ins.l[p].l.l.length:Int):=by rw[aE aa aa]
 have N:0≤c.b.l[q].ah∧c.b.l[q].ah≤60:=⟨(jw a.ck.hc.ok u).1,t.ah _ (za9 u)⟩;have O:0<d.b.l[q].ah∧d.b.l[q].ah≤1000:=by have:=(a.ck.hf _ (za9 j)).1;have:=a.ah _ (za9 j);omega
 have hdk:=(a.ck.hf _ (za9 j)).1;have P:d.b.l≠[]:=fun e=>by rw[e] at j;exact absurd j (zbK _)
 have F:d.b.l[q].ins.l≠[]:=fun e=>by rw[e] at s;exact absurd s (zbK _)
 have K:=a.ck.hc.gQ u _ (za9 B);have Q:=a.ck.hd.gQ j _ (za9 s);have J:=(a.ck.hf _ (za9 j)).2 _ (za9 s);have L:0≤c.b.l[q].ins.l[n].b:=by have:=v.b;omega
 have hab:=K.b;have S:0<c.b.l[q].ah:=aa;refine zw func5 ?_;refine zk ?_
 repeat' ((first|refine az.mk _ (kS B h0) ?_|(refine DC.pure rfl (B6 c d z q p y aa D a.ok u j A aa S O) ?_;rintro _ ⟨g,X,rfl,hg,hX⟩;have hrl:=@xk (X.getD p cb) c.b.l[q].ah.toNat d.b.l[q].ah.toNat)|refine az.mk _ (B7 r.1 aa) ?_|refine bR (mj j rfl) ?_|refine bR (mj s rfl) ?_|(refine bR (CY (n:=q) rfl (by rw[zba];exact j)) ?_)|(refine zp ?_ ?_<;>first|exact⟨⟩|intro h)|refine az.mk _ (bO aa) ?_|(refine DC.pure rfl (C) ?_;rintro _ rfl)|(refine DC.pure rfl (nQ c 250 60 ab) ?_;rintro _ ⟨b,rfl,hb⟩)|(refine DC.pure rfl (iW c aa) ?_;rintro _ rfl)|(refine DC.pure rfl (G) ?_;rintro _ rfl)|(refine DC.pure rfl (E) ?_;rintro _ rfl)|(refine DC.pure rfl (A4 ⟨(a_ c.b.l[q].ah.toNat).filter ((X.getD p cb).of m).has,BB N⟩ c.b.l[q].ins.l[n].b) ?_;rintro _ (⟨rfl,Y⟩|⟨rfl,Y⟩))|refine DC.new rfl (rA d.b.l P aa) ry ab ?_|refine DC.new rfl (kb d.b.l[q].ins.l F aa) kg ab ?_)<;>refine zk ?_)
 all_goals first|exact⟨⟩|skip
 refine DC.rT (nm:=229) (args2:=[c.av,i64 k,.agg (d.p.cells++[.ay 217 0 d.b.l.length 2]),.agg [.ak 1 (z.map cx)]]) (o := .arr 29 ((d.b.l[q].ins.l.set p (d.b.l[q].ins.l[p].wb m)).map Ins.cells)) (H2 := .put 217 (some (.arr 2 ((dY d q p d.b.l[q] (d.b.l[q].ins.l[p].wb m)).b.l.map Bd.cells))) .nil) (zbc (fun es=>some (an.arr 29 es)) (DB (l:=d.b.l[q].ins.l) (p:=p) (i:=(d.b.l[q].ins.l[p].wb m)))) ⟨.inl rfl,.inl rfl,.inl rfl,.inl rfl,trivial⟩ (fun k' b' e=>?_) ?_
 . obtain ⟨rfl, rfl⟩ := ym e
   exact⟨ab,_,rfl,BM rfl D0 (.inr (fj (f:=Ins.cells) (n:=19) (fun _=>rfl) rfl rfl (by rw[zbP])))⟩
 refine DC.rS (nm:=217) (args2:=[c.av,i64 k,(dY d q p d.b.l[q] (d.b.l[q].ins.l[p].wb m)).av,.agg [.ak 1 (z.map cx)]]) rfl ⟨.inl rfl,.inl rfl,.inr (lM (n:=19) (da rfl (da rfl (da rfl (da rfl (da rfl (da rfl (da (fj (f:=Bd.cells) (n:=18) (fun _=>rfl) rfl rfl nS.symm) rfl)))))))),.inl rfl,trivial⟩ ?_
 refine DC.pure rfl (AN y aa U D a.ok a.ck.hf u j A s B M h0 ⟨rfl,rfl,rfl,rfl,rfl⟩ (Ld v R.2 r.1) (R8 J r.2) hg hX (ND (i:=d.b.l[q].ins.l[p].wb m) r.1 (Q.fb R.2) (Tl (YV (Ld v R.2 r.1)))) (ND L (K.fb L) rfl) (B8 (w:=c.b.l[q].ins.l[n].b) aa Y)) ?_
 rintro _ ⟨x,rfl,hx⟩
 refine zg ?_
 repeat' (((refine zp ?_ ?_<;>first|exact⟨⟩|intro h))<;>refine zg ?_)
 all_goals exact⟨⟩
theorem QA (b:Int)(bs:List Int)(c:bs.length≤100):cM 16 [aT (b::bs)] .nil 0 (fun d H' _=>d = .ret (.ay 5 0 (bs.length+1) 1)∧H'.get 5=some (.arr 1 (ic b::bs.map ic))):=by
 refine zd func16 ?_;refine zg ?_
 repeat' ((first|refine zf ?_|refine Rq.mk Aj ?_|(refine Rq.mk (ru 8 102 _ ag rfl rfl (by simp<;>omega) (by simp only[zba,zbd];omega)) ?_))<;>refine zg ?_)
 exact⟨zbc AE.ret (dX rfl rfl ag rfl),zbc some (e_ rfl ag)⟩
theorem Qx (l:List Int)(h:l≠[])(c:l.length≤100):cM 16 [aT l] .nil 0 (fun a H' _=>a = .ret (.ay 5 0 l.length 1)∧H'.get 5=some (.arr 1 (l.map ic))):=by
 rcases l with _|⟨b,d⟩
 . grind
 simp_all
 exact QA b _ aa
theorem YB {l:List Int}{z w:Int}{f:Nat}(a:z=(f:Int)):(l.map ic).set (0+z.toNat) [i64 w]=(l.set f w).map ic:=by
 simp_all
theorem SL {nm sz:Nat}{o:an}{L es k:List (List AV)}{q n:Nat}{r:List AV}{x y:AV}(p:es=L.set q (r.set n x))(m:k=L.set q (r.set n y))(h:fC nm o x y):iu nm o (.arr sz es) (.arr sz k):=by
 subst p m;refine .inr ⟨sz,_,_,rfl,rfl,ag,fun i f a=>?_⟩
 by_cases e:i=q
 . subst e
   have l:i<L.length:=by have:=(zbn.1 a).1;simpa using this
   rw[zci l] at a;cases a;refine⟨_,zci l,ag,fun j b c=>?_⟩
   by_cases d:j=n
   . grind
   . rw [zbV fun x => d x.symm] at c
     exact⟨b,by rw[zbV fun x=>d x.symm];exact c,.inl rfl⟩
 . rw [zbV fun x => e x.symm] at a
   exact⟨f,by rw[zbV fun x=>e x.symm];exact a,rfl,fun j b c=>⟨b,c,.inl rfl⟩⟩
theorem Xv {nm a:Nat}{o c:an}{k:Nat}{b:an}(e:(Tr.put nm (some o) (Tr.put a (some c) Tr.nil):aj).get k=some b):(k=nm∧b=o)∨(k=a∧b=c):=by
 rw[Tr.get] at e;cases d:beq k nm with
 | true=>simp_all
 | false=>rw[d] at e;exact .inr (ym e)
theorem PU (c d:Cd)(z:List (List Int))(k E m:Int)(q p n f:Nat)(j:q<d.b.l.length)(u:p<d.b.l[q].ins.l.length)(D:af 6 [] (fun H=>H = .ret (.bool true)))(t:dS c 250 60)(F:bU c=0)(hk:4≤k∧k≤16)(J:af 11 [c.av,i64 k] (fun H=>H = .ret (.ao [d.av,.agg [.ak 1 (z.map cx)],i64 0])))(a:mG c k d z)(A:q<z.length)(v:q<c.b.l.length)(T:p<z[q].length)(C:n<c.b.l[q].ins.l.length)(h0:z[q][p]=(n:Int))(B:SimI c.b.l[q].ins.l[n] d.b.l[q].ins.l[p])(P:0≤m∧m<k)(S:E=(f:Int)+2)(R:f<d.b.l[q].ins.l[p].l.l.length):af 5 [c.av,i64 k,i64 q,i64 p,i64 E,i64 m] (fun H=>H = .ret (.bool true)):=by
 have hs:=t.sum;have hsm5:dS c 500 60:=⟨t.nb,t.ah,t.fH,aa⟩;have hnb:=t.nb;have y:=t.pr aa a.ck (by have:=a.sum;omega)
 have hlo:=a.ck.co.lo;have hlc:=a.ck.co.lc;have K:=pK c d k z y aa hk F a.ok a.ck;have hol:=a.ck.co.ol q j A;have hdl:=y.ld j;have hcl:=zbu (ki (za9 v)) hs;have hll:=B.l;have hL:=y.uP v j A _ (za9 u);have hw2:wr .i64 (2+(d.b.l[q].ins.l[p].l.l.length:Int))=2+(d.b.l[q].ins.l[p].l.l.length:Int):=by rw[aE aa aa]
 have Y:0≤c.b.l[q].ah∧c.b.l[q].ah≤60:=⟨(jw a.ck.hc.ok v).1,t.ah _ (za9 v)⟩;have U:0<d.b.l[q].ah∧d.b.l[q].ah≤1000:=by have:=(a.ck.hf _ (za9 j)).1;have:=a.ah _ (za9 j);omega
 have hdk:=(a.ck.hf _ (za9 j)).1;have Z:d.b.l≠[]:=fun e=>by rw[e] at j;exact absurd j (zbK _)
 have M:d.b.l[q].ins.l≠[]:=fun e=>by rw[e] at u;exact absurd u (zbK _)
 have N:=a.ck.hc.gQ v _ (za9 C);have V:=a.ck.hd.gQ j _ (za9 u);have I:=(a.ck.hf _ (za9 j)).2 _ (za9 u);have s:f<c.b.l[q].ins.l[n].l.l.length:=aa;have O:d.b.l[q].ins.l[p].l.l≠[]:=fun e=>by rw[e] at R;exact absurd R (zbK _)
 have Q:c.b.l[q].ins.l[n].l.l≠[]:=fun e=>by rw[e] at s;exact absurd s (zbK _)
 have G:wr .i64 (E - 2)=(f:Int):=by rw[S,aE aa aa];omega
 have hab:=N.l _ (za9 s);have hr0:0<c.b.l[q].ah:=aa;refine zw func5 ?_;refine zk ?_
 repeat' ((first|refine az.mk _ (kS C h0) ?_|(refine DC.pure rfl (B6 c d z q p y aa F a.ok v j A aa hr0 U) ?_;rintro _ ⟨g,X,rfl,hg,hX⟩;have hrl:=@xk (X.getD p cb) c.b.l[q].ah.toNat d.b.l[q].ah.toNat)|refine az.mk _ (B7 P.1 aa) ?_|refine bR (mj j rfl) ?_|refine bR (mj u rfl) ?_|(refine bR (CY (n:=q) rfl (by rw[zba];exact j)) ?_)|refine az.mk _ (kS s G) ?_|refine bR (mj R G) ?_|(refine zp ?_ ?_<;>first|exact⟨⟩|intro h)|refine az.mk _ (bO aa) ?_|(refine DC.pure rfl (D) ?_;rintro _ rfl)|(refine DC.pure rfl (nQ c 250 60 ab) ?_;rintro _ ⟨b,rfl,hb⟩)|(refine DC.pure rfl (iW c aa) ?_;rintro _ rfl)|(refine DC.pure rfl (J) ?_;rintro _ rfl)|(refine DC.pure rfl (K) ?_;rintro _ rfl)|(refine DC.pure rfl (A4 ⟨(a_ c.b.l[q].ah.toNat).filter ((X.getD p cb).of m).has,BB Y⟩ (c.b.l[q].ins.l[n].l.l[f]'aa)) ?_;rintro _ (⟨rfl,hm⟩|⟨rfl,hm⟩))|refine DC.new rfl (rA d.b.l Z aa) ry ab ?_|refine DC.new rfl (kb d.b.l[q].ins.l M aa) kg ab ?_|refine DC.new rfl (Qx d.b.l[q].ins.l[p].l.l O aa) vP ab ?_)<;>refine zk ?_)
 all_goals first|exact⟨⟩|skip
 refine DC.rT (nm:=209) (args2:=[c.av,i64 k,.agg (d.p.cells++[.ay 251 0 d.b.l.length 2]),.agg [.ak 1 (z.map cx)]]) (o := .arr 1 ((d.b.l[q].ins.l[p].l.l.set f m).map ic)) (H2 := .put 263 (some (.arr 29 ((d.b.l[q].ins.l.set p (d.b.l[q].ins.l[p].ws f m)).map Ins.cells))) (.put 251 (some (.arr 2 ((d.b.l.map Bd.cells).set (0+((q:Int)).toNat) [i64 d.b.l[q].ah,.ay 263 0 d.b.l[q].ins.l.length 29]))) .nil)) (zbc (fun es=>some (an.arr 1 es)) (YB G)) ⟨.inl rfl,.inl rfl,.inl rfl,.inl rfl,trivial⟩ (fun k' b' e=>?_) ?_
 . rcases Xv e with ⟨rfl, rfl⟩ | ⟨rfl, rfl⟩
   . exact⟨ab,_,rfl,SL (L:=d.b.l[q].ins.l.map Ins.cells) (q:=0+((p:Int)).toNat) (n:=25) (r:=d.b.l[q].ins.l[p].cells) rfl (DB (l:=d.b.l[q].ins.l) (p:=p) (i:=d.b.l[q].ins.l[p].ws f m)).symm (.inr (Lh (l:=d.b.l[q].ins.l[p].l.l.set f m) (by rw[zbP]) rfl))⟩
   . exact⟨ab,_,rfl,.inl rfl⟩
 refine DC.rT (nm:=263) (args2:=[c.av,i64 k,.agg (d.p.cells++[.ay 251 0 d.b.l.length 2]),.agg [.ak 1 (z.map cx)]]) (o := .arr 29 ((d.b.l[q].ins.l.set p (d.b.l[q].ins.l[p].ws f m)).map Ins.cells)) (H2 := .put 251 (some (.arr 2 ((dY d q p d.b.l[q] (d.b.l[q].ins.l[p].ws f m)).b.l.map Bd.cells))) .nil) rfl ⟨.inl rfl,.inl rfl,.inl rfl,.inl rfl,trivial⟩ (fun k' b' e=>?_) ?_
 . obtain ⟨rfl, rfl⟩ := ym e
   exact⟨ab,_,rfl,BM rfl D0 (.inr (fj (f:=Ins.cells) (n:=19) (fun _=>rfl) rfl rfl (by rw[zbP])))⟩
 refine DC.rS (nm:=251) (args2:=[c.av,i64 k,(dY d q p d.b.l[q] (d.b.l[q].ins.l[p].ws f m)).av,.agg [.ak 1 (z.map cx)]]) rfl ⟨.inl rfl,.inl rfl,.inr (lM (n:=19) (da rfl (da rfl (da rfl (da rfl (da rfl (da rfl (da (fj (f:=Bd.cells) (n:=18) (fun _=>rfl) rfl rfl nS.symm) rfl)))))))),.inl rfl,trivial⟩ ?_
 refine DC.pure rfl (AN y aa hk F a.ok a.ck.hf v j A u C T h0 ⟨rfl,rfl,rfl,rfl,rfl⟩ (YW B (by rw[zbP])) I hg hX (show(aQ (d.b.l[q].ins.l[p].ws f m))[f]? = some m by rw[NF (i:=d.b.l[q].ins.l[p].ws f m) (V.fl O)];exact zci R) (show(aQ c.b.l[q].ins.l[n])[f]? = some (c.b.l[q].ins.l[n].l.l[f]'s) by rw[NF (N.fl Q)];exact zbf s) (B8 (w:=c.b.l[q].ins.l[n].l.l[f]'s) aa hm)) ?_
 rintro _ ⟨x,rfl,hx⟩
 refine zg ?_
 repeat' (((refine zp ?_ ?_<;>first|exact⟨⟩|intro h))<;>refine zg ?_)
 all_goals exact⟨⟩
theorem PT (c:Cd)(k C m f h:Int)(e:af 6 [] (fun E=>E = .ret (.bool true))):af 5 [c.av,i64 k,i64 C,i64 m,i64 f,i64 h] (fun E=>E = .ret (.bool true)):=by
 by_cases g:dS c 250 60
 . by_cases G : bU c = 0 ∧ 4 ≤ k ∧ k ≤ 16
   . obtain ⟨s, B⟩ := G
     have P:=g.sum;obtain⟨d,z,i,j⟩:=Oc c k ⟨g.nb,g.ah,g.fH,aa⟩ B s;have O:=j.ck.co.lo;have K:=j.ck.co.lc
     by_cases N:0≤C∧C<d.b.l.length
     . obtain ⟨q, rfl⟩ : ∃ q : Nat, C = (q : Int) := ⟨C.toNat, aa⟩
       have o:q<d.b.l.length:=aa;have w:q<z.length:=aa;have x:q<c.b.l.length:=aa;have L:=j.ck.co.ol q o w
       by_cases M:0≤m∧m<d.b.l[q].ins.l.length
       . obtain ⟨p, rfl⟩ : ∃ p : Nat, m = (p : Int) := ⟨m.toNat, aa⟩
         have u:p<d.b.l[q].ins.l.length:=aa;have y:p<z[q].length:=aa;have F:=j.ck.co.row q x o w p u;rw[ej y] at F;rcases F with⟨r,_⟩|⟨n,A,D,v,_⟩
         . exact FC c d z k f h q p o u e g s B i j fun _ _ => .inl aa
         . by_cases t : 0 ≤ h ∧ h < k
           . by_cases H : f = 0 ∧ 0 ≤ d.b.l[q].ins.l[p].a
             . exact PO c d z k f h q p n o u e g s B i j w x y A D v t H
             . by_cases I : f = 1 ∧ 0 ≤ d.b.l[q].ins.l[p].b
               . exact PR c d z k f h q p n o u e g s B i j w x y A D v t I
               . by_cases J : 2 ≤ f ∧ f < 2 + (d.b.l[q].ins.l[p].l.l.length : Int)
                 . exact PU c d z k f h q p n (f - 2).toNat o u e g s B i j w x y A D v t aa aa
                 . exact PV c d z k f h q p n o u e g s B i j w x y A D v t ⟨H,I,J⟩
           . exact FC c d z k f h q p o u e g s B i j fun _ _ => .inr t
       . exact PQ c d z k m f h q o e g s B i j M
     . exact PX c d z k C m f h e g s B i j N
   . exact PS c k C m f h e g G
 . exact PW c k C m f h e g
end Go.Ago
end
