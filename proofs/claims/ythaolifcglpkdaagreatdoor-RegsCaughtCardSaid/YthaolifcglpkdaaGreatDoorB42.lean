/-
  Part B42: lemmas, each with its own conditions.
-/
import Derived.Test.YthaolifcglpkdaaGreatDoorB41
set_option maxRecDepth 100000
set_option maxHeartbeats 0
set_option linter.all false
namespace Go.Ago
open Go.Proofs List Nat
def fe (x:Int):Bool:=decide (0≤x)
def cR (o:List Int)(p:Nat):Nat:=((o.take p).filter fe).length
def j2 (k:Int)(i:Ins):Prop:=
 ((if k≤i.d then 1 else 0)+(if k≤i.a then 1 else 0)+(if k≤i.b then 1 else 0):Nat)=0∨(((if k≤i.d then 1 else 0)+(if k≤i.a then 1 else 0)+(if k≤i.b then 1 else 0):Nat)=1∧i.op=3)
structure vC (N M k:Int)(C:List Ins)(E:Int->Prop)(Y:List Ins)(o tl:List Int):Prop extends RowsX M C Y o tl where
 uy:o.filter fe=a_ C.length
 LK:∀n,n≤C.length->cR o (tl.getD n 0).toNat=n
 fit:∀y∈Y,j2 k y
 km:k≤M
 cf:∃I:Nat->Int->Int->Prop,∀gd:Gr,cT (fun _=>True) Y gd.ins.l->(∀x∈gd.entries.l,∃n:Int,(0≤n∧n≤(C.length:Int))∧E n∧x=tl.getD n.toNat 0)->
  px I (bM C o gd)∧∀(p n:Nat) (hp:p<gd.ins.l.length) (hn:n<C.length),o.getD p 0=(n:Int)->Reads (I p) (aQ gd.ins.l[p]) (aQ C[n])
theorem RowsX.Z1 {M:Int}{C Y:List Ins}{o tl:List Int}(h:RowsX M C Y o tl)(d:o.filter fe=a_ C.length){n:Nat}(j:n<C.length):∃(p:Nat) (b:p<Y.length),o.getD p 0=(n:Int)∧pg M tl C[n] Y[p]:=by
 have c:(n:Int)∈o.filter fe:=by rw[d];exact sq.2 ⟨aa,aa⟩
 obtain⟨p,b,e⟩:=zbo.1 (zbY.1 c).1;have a:p<Y.length:=by rw[<-h.ol];exact b
 have i:o.getD p 0=(n:Int):=by rw[ej b,e]
 rcases h.row p a with⟨f,_⟩|⟨m,c,f,g⟩
 . omega
 grind
theorem eF.symm {R:Int->Prop}{a b:Ins}(h:eF R a b):eF R b a:=by
 rcases h with rfl|⟨d,c,x,rfl⟩
 . exact .inl rfl
 exact .inr ⟨d,c,a.n,rfl⟩
theorem cT.symm {R:Int->Prop}{a b:List Ins}(h:cT R a b):cT R b a:=⟨h.1.symm,fun m d c=>(h.2 m _ _).symm⟩
theorem cT.any {R:Int->Prop}{a b:List Ins}(h:cT R a b):cT (fun _=>True) a b:=h.mono (ag)
theorem De (m:Nat):(a_ m).filter fe=a_ m:=filter_eq_self.2 fun x a=>zbF (sq.1 a).1
theorem J0 {m n:Nat}(h:n≤m):(a_ m).take n=a_ n:=by
 unfold a_;rw[<-List.map_take,take_range,zcw h]
theorem XJ {m n:Nat}(h:n≤m):cR (a_ m) n=n:=by
 unfold cR;rw[J0 h,De,ib]
theorem Jd {k:Int}:∀{l:List Ins} {n:Nat},(cI k n l).filter fe=(List.range l.length).map fun m=>((n+m:Nat):Int)
 | [],_=>rfl
 | i :: l, n => by
   show(dW k n i++cI k (n+1) l).filter fe=_;rw[zb5,Jd,zbd,range_succ_eq_map,zcq,zcz];have b:∀m,(replicate m (-1:Int)).filter fe=[]:=fun m=>filter_eq_nil_iff.2 fun x d=>by rw[eq_of_mem_replicate d];decide
   have c:(dW k n i).filter fe=[(n:Int)]:=by
    unfold dW;rw[zb5,b,filter_cons_of_pos aB,b];rfl
   rw[c];show(n:Int)::_=_::_
   congr 1
   refine zbZ fun m _=>?_
   grind
theorem Je {k:Int}{l:List Ins}:(cI k 0 l).filter fe=a_ l.length:=by
 rw[Jd];unfold a_;simp
theorem WG {k:Int}{l:List Ins}{n:Nat}(h:n≤l.length):(cI k 0 l).take (cO k l n)=cI k 0 (l.take n):=by
 have a:(cI k 0 _).length=cO k l n:=uV
 conv=>lhs;rw[<-zb7 n l,CO]
 simp_all
theorem WE {k:Int}{l:List Ins}{n:Nat}(h:n≤l.length):cR (cI k 0 l) (cO k l n)=n:=by
 unfold cR;rw[WG h,Je,ib,zbA,zcw h]
theorem zae {k:Int}{l:List Ins}:∀t∈eM k l (l.length+1),0≤t∧t≤((dC k l).length:Int):=fun t b=>by
 obtain⟨n,a,rfl⟩:=zbG.1 b;have:=zcf.1 a;have c:=@zv k l n _ aa (zbm _);rw[zu] at *;omega
structure iS (N:Int)(L:Nat)(i:Ins):Prop extends InsV N L i where
 fa:0≤i.a->hasB i.op 65=true
 fb:0≤i.b->hasB i.op 66=true
 fd:0≤i.d->hasB i.op 68=true
 fl:i.l.l≠[]->hasB i.op 76=true
 mv:i.op=3->0≤i.a∧0≤i.d∧i.b = -1
theorem iS.k {N:Int}{L:Nat}{i:Ins}(h:iS N L i):tL N i:=⟨h.a,h.b,h.d,h.l,h.fd,h.mv⟩
theorem iS.ua {N:Int}{L:Nat}{i:Ins}(h:iS N L i)(h0:0≤i.a):i.a∈aQ i:=by unfold aQ;rw[if_pos ⟨h.fa h0,aa⟩];simp
theorem iS.ub {N:Int}{L:Nat}{i:Ins}(h:iS N L i)(h0:0≤i.b):i.b∈aQ i:=by
 unfold aQ;rw[if_pos (show hasB _ _=true∧i.b≠-1 from⟨h.fb h0,aa⟩)];simp
theorem iS.ul {N:Int}{L:Nat}{i:Ins}(h:iS N L i){r:Int}(a:r∈i.l.l):r∈aQ i:=by
 unfold aQ;rw[if_pos (h.fl fun e=>by grind)];grind
theorem iS.sd {N:Int}{L:Nat}{i:Ins}(h:iS N L i):aH i=i.d:=K6 h.k
def l7 (C:List Ins)(W:Nat->List Int):List Ins:=(List.range C.length).map fun p=>d_ (C.getD p sb) (W p) (W (p+1))
theorem oq {C:List Ins}{W:Nat->List Int}:(l7 C W).length=C.length:=by simp[l7]
theorem Bu {C:List Ins}{W:Nat->List Int}{p:Nat}(h:p<C.length)(a:p<(l7 C W).length):(l7 C W)[p]=d_ C[p] (W p) (W (p+1)):=by
 simp only[l7,zcl,getElem_range,ej h]
theorem rR {k:Int}{i:Ins}(e:i.d<k)(f:i.a<k)(c:i.b<k):j2 k i := .inl bj
theorem C5 {k r:Int}{w:List Int}(h:r = -1∨(0≤r∧eO w k r)):(r = -1∧db w r = -1)∨(0≤r∧0≤db w r∧db w r<k):=by
 unfold db;rcases h with rfl|⟨b,a⟩
 . simp
 rw[if_neg aa];exact .inr ⟨b,a.1,a.2⟩
theorem Sb {k N:Int}{L:Nat}{x:Ins}{w w' tl:List Int}(z:0<k)(c:iS N L x)(j:∀r∈aQ x,eO w k r)(s:0≤aH x->eO w' k (aH x))(o:∀t∈bP x,tl.getD t.toNat 0=t):pg k tl x (d_ x w w'):=by
 have p:=C5 (k:=k) (w:=w) (r:=x.a) (c.a.imp id fun h=>⟨h.1,j _ (c.ua h.1)⟩)
 have u:=C5 (k:=k) (w:=w) (r:=x.b) (c.b.imp id fun h=>⟨h.1,j _ (c.ub h.1)⟩)
 have q:(d_ x w w').d=if 0≤x.d then w'.getD x.d.toNat 0 else x.d:=by show(if 0≤aH x then _ else _)=_;rw[c.sd]
 have i:(x.d = -1∧(d_ x w w').d = -1)∨(0≤x.d∧0≤(d_ x w w').d∧(d_ x w w').d<k):=by
  rw[q];rcases c.d with e|e
  . omega
  . rw [if_pos e.1]
    have:=s (by rw[c.sd];omega)
    rw[c.sd] at this;exact .inr ⟨e.1,this.1,this.2⟩
 have y:∀r∈x.l.l,0≤db w r∧db w r<k:=fun r g=>by
  rcases C5 (k:=k) (w:=w) (r:=r) (.inr ⟨(c.l r g).1,j _ (c.ul g)⟩) with h|h
  . have:=(c.l r g).1;omega
  omega
 refine⟨⟨rfl,fun _ _ _=>rfl,fun _ _=>rfl,i.imp id fun h=>⟨h.1,h.2.1⟩,p.imp id fun h=>⟨h.1,h.2.1⟩,u.imp id fun h=>⟨h.1,h.2.1⟩,?_⟩,fun _=>rfl,aa,?_,?_,fun r g=>?_,fun h=>?_,fun h=>?_⟩
 . show (x.l.l.map (db w)).length = _
   simp
 . show db w x.a<k;omega
 . show db w x.b<k;omega
 . obtain ⟨A, v, rfl⟩ := zbG.1 (show r ∈ x.l.l.map (db w) from g)
   grind
 . show x.n = _
   exact(o x.n (by unfold bP;grind)).symm
 . show x.m = _
   exact(o x.m (by unfold bP;grind)).symm
theorem Sd {N k:Int}{C:List Ins}{E:Int->Prop}{g:Gr}{S:List (List aA)}{W:Nat->List Int}{B:List Ins}{T:List (List Int)}(hk:0<k)(z:gA g)(hS:fD g S)(m:j3 g S k W B)(hC:g.ins.l=C.map (gI T))(u:∀i∈C,iS N C.length i)(hE:∀n:Int,0≤n->E n->n∈g.entries.l) :
 vC N k k C E (l7 C W) (a_ C.length) (a_ (C.length+1))∧B=(l7 C W).map (gI T):=by
 have f:g.ins.l.length=C.length:=by rw[hC,zba]
 have b:∀(p:Nat) (h:p<C.length) (d:p<g.ins.l.length),g.ins.l[p]=gI T C[p]:=fun p h d=>by grind
 have hu:∀(p:Nat) (h:p<C.length),∀r∈aQ C[p],eO (W p) k r:=fun p h r hr=>by
  have d:p<g.ins.l.length:=by rw[f];exact h
  have A:r∈aQ g.ins.l[p]:=by rw[b p h d,(BT T C[p]).jm];exact hr
  have v:=z.ok.jm _ (za9 d) r A;have a:=hS.fix p r.toNat aa (.inl ⟨d,.inr bj⟩);have:=m.jM p aa r.toNat aa a
  grind
 have hd:∀(p:Nat) (h:p<C.length),0≤aH C[p]->eO (W (p+1)) k (aH C[p]):=fun p h h0=>by
  have d:p<g.ins.l.length:=by rw[f];exact h
  have e:aH g.ins.l[p]=aH C[p]:=by rw[b p h d,(BT T C[p]).gx]
  have:=m.dst p d d aa
  grind
 have c:∀(p:Nat) (h:p<C.length),pg k (a_ (C.length+1)) C[p] (d_ C[p] (W p) (W (p+1))):=fun p h=>
  Sb hk (u _ (za9 h)) (hu p h) (hd p h) fun t w=>by
   have:=(u _ (za9 h)).t t w;rw[mq aa];omega
 have hB:B=(l7 C W).map (gI T):=by
  refine zcx (by rw[m.len,f,zba,oq]) fun p h1 v=>?_
  have a:p<C.length:=by rw[zba,oq] at v;exact v
  have h4:p<g.ins.l.length:=by rw[f];exact a
  rw[m.row p h4 h1,zcl,Bu a bj,b p a h4,Sc]
 refine⟨⟨⟨by rw[ib,oq],ib _,fun t w=>?_,fun p j => .inr ?_⟩,De _,fun n o=>?_,fun y hy=>?_,Int.le_refl k,pq g S W,fun D hD he=>?_⟩,hB⟩
 . have := sq.1 w
   rw[oq];omega
 . have a : p < C.length := by rw [oq] at j; exact j
   refine⟨p,a,mq a,?_⟩;rw[Bu a j]
   grind
 . rw [mq aa, zbt]
   exact XJ o
 . obtain ⟨p, j, rfl⟩ := zbo.1 hy
   have a:p<C.length:=by rw[oq] at j;exact j
   rw[Bu a j];exact rR (c p a).rd (c p a).ra (c p a).rb
 . have s : cT (fun _ => True) B D.ins.l := by rw [hB]; exact ((BS T (l7 C W)).any.symm).trans hD
   have q:cT (fun _=>True) C g.ins.l:=by rw[hC];exact(BS T C).any
   have hgl:D.ins.l.length=C.length:=by rw[hD.1,oq]
   have he2:∀x∈D.entries.l,x∈g.entries.l:=fun x u=>by
    obtain⟨n,o,hE2,rfl⟩:=he x u;rw[mq aa,zda o.1]
    grind
   refine⟨by have:=Sf z hS m q s he2;grind,fun p n j o e=>?_⟩
   rw[mq aa] at e;have:p=n:=aa;subst this;exact Sh z hS m q s j o
theorem zaW {k N:Int}{L:Nat}{x:Ins}{tl:List Int}(hk:4≤k)(hN:0≤N)(c:iS N L x):pg (k+N) tl x (cB (xF k x) tl):=by
 obtain⟨s1,s2,s3,s4,s5,s6⟩:=@vl (xF k x) tl;have ed:(xF k x).d=if dF x then 2 else aR k x.d:=rfl
 have ea:(xF k x).a=if 0≤x.a then 0 else aR k x.a:=rfl
 have eb:(xF k x).b=if x.op≠3∧0≤x.b then (if x.b=x.a then 0 else 1) else aR k x.b:=rfl
 have el:(xF k x).l.l=x.l.l.map (aR k):=rfl;have hd:(x.d = -1∧(cB (xF k x) tl).d = -1)∨(0≤x.d∧0≤(cB (xF k x) tl).d∧(cB (xF k x) tl).d<k+N):=by
  rw[s2,ed];rcases c.d with e|e
  . refine .inl ⟨e, ?_⟩
    rw[if_neg (fun h:dF x=>aa),mC aa]
    exact e
  . refine .inr ⟨e.1, ?_⟩
    split
    . omega
    . rw[jZ e.1];omega
 have ha:(x.a = -1∧(cB (xF k x) tl).a = -1)∨(0≤x.a∧0≤(cB (xF k x) tl).a∧(cB (xF k x) tl).a<k+N):=by
  rw[s3,ea];rcases c.a with e|e
  . refine .inl ⟨e, ?_⟩
    rw[if_neg aa,mC aa];exact e
  . omega
 have hb:(x.b = -1∧(cB (xF k x) tl).b = -1)∨(0≤x.b∧0≤(cB (xF k x) tl).b∧(cB (xF k x) tl).b<k+N):=by
  rw[s4,eb];rcases c.b with e|e
  . refine .inl ⟨e, ?_⟩
    rw[if_neg aa,mC aa];exact e
  . have f : x.op ≠ 3 := fun f => by have := (c.mv f).2.2; omega
    omega
 have ho:(xF k x).op=x.op:=rfl;have hn:(xF k x).n=x.n:=rfl;have hm:(xF k x).m=x.m:=rfl;refine⟨⟨?_,fun h1 h2 f=>?_,fun h1 h2=>?_,hd.imp id fun h=>⟨h.1,h.2.1⟩,ha.imp id fun h=>⟨h.1,h.2.1⟩,hb.imp id fun h=>⟨h.1,h.2.1⟩,?_⟩,fun h=>?_,aa,aa,aa,fun r hr=>?_,fun h=>?_,fun h=>?_⟩
 . unfold cB
   split
   . rfl
   . split
     . rfl
     . rfl
 . unfold cB
   grind
 . unfold cB
   grind
 . grind
 . rw [(yV (xF k x) tl).2.2 aa]
   rfl
 . rw [s5, el] at hr
   obtain⟨r0,h0,rfl⟩:=zbG.1 hr;have:=c.l r0 h0;rw[jZ this.1];omega
 . unfold cB
   grind
 . unfold cB
   grind
theorem Zo {N k:Int}{C:List Ins}{E:Int->Prop}(G:4≤k)(K:0≤N)(u:∀i∈C,iS N C.length i) :
 vC N (k+N) k C E ((dC k C).map fun i=>cB i (eM k C (C.length+1))) (cI k 0 C) (eM k C (C.length+1)):=by
 have q:∀(p:Nat) (h:p<((dC k C).map fun i=>cB i (eM k C (C.length+1))).length),(∃d a,(0≤d∧d<k+N)∧(0≤a∧a<k+N)∧j2 k (cq d a)∧(cI k 0 C).getD p 0 = -1∧((dC k C).map fun i=>cB i (eM k C (C.length+1)))[p]=cq d a)∨∃(n:Nat) (f:n<C.length),(cI k 0 C).getD p 0=(n:Int)∧((dC k C).map fun i=>cB i (eM k C (C.length+1)))[p]=cB (xF k C[n]) (eM k C (C.length+1)):=fun p h=>by
  have j:p<(dC k C).length:=by rw[zba] at h;exact h
  obtain⟨n,s,f,D,e⟩:=A9 (k:=k) (l:=C) (m:=C.length) (p:=p) (zbm _) (by rw[zu];exact j)
  have r:=Fa (k:=k) f D;rw[<-e,zbf j] at r;have z:=CP (k:=k) f D;rw[<-e] at z;have w:(cI k 0 C).getD p 0=if s=bX C[n] then (n:Int) else -1:=by rw[zbD,z];rfl
  have g:=u _ (za9 f);rw[zcl,w];rcases ud r.symm with⟨o,c,F,v⟩|⟨o,c,v⟩|⟨o,v⟩|⟨o,_,c,v⟩
  . have V : C[n].a < N := by rcases g.a with e | e <;> omega
    refine .inl ⟨0,k+C[n].a,aa,aa,.inr ⟨?_,rfl⟩,aa,by rw[v];rfl⟩
    show(if k≤(0:Int) then 1 else 0)+(if k≤k+C[n].a then 1 else 0)+(if k≤(-1:Int) then 1 else 0)=1
    grind
  . have T : C[n].b < N := by rcases g.b with e | e <;> have := c.2.1 <;> omega
    have:=c.2.1;refine .inl ⟨1,k+C[n].b,aa,aa,.inr ⟨?_,rfl⟩,aa,by rw[v];rfl⟩
    show(if k≤(1:Int) then 1 else 0)+(if k≤k+C[n].b then 1 else 0)+(if k≤(-1:Int) then 1 else 0)=1
    grind
  . grind
  . have U : C[n].d < N := by rcases g.d with e | e <;> have := c.2 <;> omega
    have:=c.2;refine .inl ⟨k+C[n].d,2,aa,aa,.inr ⟨?_,rfl⟩,aa,by rw[v];rfl⟩
    show(if k≤k+C[n].d then 1 else 0)+(if k≤(2:Int) then 1 else 0)+(if k≤(-1:Int) then 1 else 0)=1
    grind
 refine⟨⟨by rw[uV,zba],Ns,fun t A=>by rw[zba];exact zae t A,fun p j=>?_⟩,Je,fun n f=>?_,fun y L=>?_,aa,eN k N C,fun M O P=>?_⟩
 . rcases q p j with ⟨d, a, o, r, _, c, F⟩ | ⟨n, f, o, r⟩
   . grind
   . refine .inr ⟨n, f, o, ?_⟩
     rw[r];exact zaW G K (u _ (za9 f))
 . rw [Eb aa, zbt]
   exact WE f
 . obtain ⟨p, j, rfl⟩ := zbo.1 L
   rcases q p j with⟨d,a,o,r,I,c,F⟩|⟨n,f,o,r⟩
   . grind
   . rw [r]
     obtain⟨J,H,Q,S,X,Y⟩:=@vl (xF k C[n]) (eM k C (C.length+1));have g:=u _ (za9 f);have Z:(xF k C[n]).a<k:=by
      show(if 0≤C[n].a then 0 else aR k C[n].a)<k
      split
      . omega
      . rw[mC aa];omega
     have eb:(xF k C[n]).b<k:=by
      show(if C[n].op≠3∧0≤C[n].b then (if C[n].b=C[n].a then 0 else 1) else aR k C[n].b)<k
      split
      . omega
      . rename_i h
        by_cases c:C[n].op=3
        . have:=(g.mv c).2.2;rw[mC aa];omega
        . rw[mC aa];omega
     by_cases c:C[n].op=3
     . have := g.mv c
       refine .inr ⟨?_,by rw[J];exact c⟩
       rw[H,Q,S,if_neg (show ¬k≤(xF k C[n]).a by omega),if_neg (show ¬k≤(xF k C[n]).b by omega)]
       rw[if_pos];show k≤(if dF C[n] then 2 else aR k C[n].d)
       rw[if_neg (fun h=>h.1 c),jZ aa]
       omega
     . refine rR ?_ aa aa
       rw[H];show(if dF C[n] then 2 else aR k C[n].d)<k
       by_cases I:0≤C[n].d
       . omega
       . rw[if_neg (fun h:dF C[n]=>I h.2),mC aa];omega
 . have B:mH k N C (eM k C (C.length+1)) (fun _=>True) M:=⟨G,fun i g=>(u i g).k,O,fun i g t A=>by
    have:=(u i g).t t A;exact⟨t.toNat,aa,Eb aa⟩,fun x u=>by
    obtain⟨n,f,_,rfl⟩:=P x u;exact⟨n.toNat,aa,Eb aa⟩⟩
   exact⟨O7 B (cT.refl (R:=fun _=>True) C),fun p n j f e=>O9 B (cT.refl (R:=fun _=>True) C) j e f⟩
end Go.Ago
section
namespace Go.Ago
open Go.Proofs List Nat
theorem cJ.gQ {c:Cd}(j:cJ c){q:Nat}(e:q<c.b.l.length):∀i∈c.b.l[q].ins.l,iS c.b.l[q].ah c.b.l[q].ins.l.length i:=fun i g=>by
 have k:=(jw j.ok e).2 i g;obtain⟨u,s⟩:=j.ok;obtain⟨m,n⟩:=s q e i g;obtain⟨_,o,t,f,v⟩:=m;have a:∀{p:Bool} {r:Int},(p=false->r = -1)->0≤r->p=true:=fun {p} {r} w x=>by
  grind
 refine⟨k,a t,a f,a o,fun y=>?_,fun d=>?_⟩
 . grind
 . have h := n.2.2.1 d
   unfold aL at h;refine⟨h.2.1,h.1.1,f ?_⟩;rw[d];rfl
def jr (c:Cd)(j:Nat)(n:Int):Prop:=∃b∈c.b.l,∃i∈b.ins.l,i.op=16∧i.p=(j:Int)∧i.n=n
structure bQ (c:Cd)(k:Int)(q:Nat)(d:Cd)(of T:List (List Int)):Prop where
 le:q≤c.b.l.length
 len:d.b.l.length=c.b.l.length
 pr:d.p=c.p
 jk:T.length=q
 gU:of.length=q
 todo:∀(j:Nat) (h:j<c.b.l.length) (h':j<d.b.l.length),q≤j->d.b.l[j].ah=c.b.l[j].ah∧d.b.l[j].ins.l=c.b.l[j].ins.l.map (gI T)
 done:∀(j:Nat) (h:j<c.b.l.length) (h':j<d.b.l.length) (ho:j<of.length) (ht:j<T.length),(k≤d.b.l[j].ah∧d.b.l[j].ah≤k+c.b.l[j].ah)∧∃Y,d.b.l[j].ins.l=Y.map (gI T)∧Y.length≤4 * c.b.l[j].ins.l.length∧vC c.b.l[j].ah d.b.l[j].ah k c.b.l[j].ins.l (jr c j) Y of[j] T[j]
theorem bQ.start (c:Cd)(k:Int):bQ c k 0 c [] []:=
 ⟨zbq _,rfl,rfl,rfl,rfl,fun j h a _=>⟨rfl,by rw[SN,map_id]⟩,fun j h a b=>ag⟩
theorem KA {N:Int}{C:List Ins}(h0:0≤N)(j:∀i∈C,iS N C.length i):RowsX N C C (a_ C.length) (a_ (C.length+1)):=by
 refine⟨ib _,ib _,fun t c=>?_,fun p f => .inr ⟨p,f,mq f,?_⟩⟩
 . have := sq.1 c
   omega
 . have h := j _ (za9 f)
   have c:∀t∈bP C[p],t=(a_ (C.length+1)).getD t.toNat 0:=fun t c=>by
    have:=h.t t c;rw[mq aa];omega
   refine⟨⟨rfl,fun _ _ _=>rfl,fun _ _=>rfl,h.d.imp (fun e=>⟨e,e⟩) fun e=>⟨e.1,e.1⟩,h.a.imp (fun e=>⟨e,e⟩) fun e=>⟨e.1,e.1⟩,h.b.imp (fun e=>⟨e,e⟩) fun e=>⟨e.1,e.1⟩,rfl⟩,fun _=>rfl,?_,?_,?_,h.l,fun g=>c _ (by unfold bP;grind),fun g=>c _ (by unfold bP;grind)⟩
   . rcases h.d with e|e<;>omega
   . rcases h.a with e|e<;>omega
   . rcases h.b with e|e<;>omega
theorem Dp {M:Int}{C Y:List Ins}{o tl:List Int}(h:RowsX M C Y o tl):∀y∈Y,y.op=16->∃x∈C,x.op=16∧x.p=y.p∧x.n=y.n:=fun y i b=>by
 obtain⟨p,k,rfl⟩:=zbo.1 i;rcases h.row p _ with⟨_,d,a,_,_,e⟩|⟨n,j,_,c⟩
 . rw [e] at b
   exact absurd b (show ¬3=16 by decide)
 . have f := c.op.symm.trans b
   exact⟨_,za9 _,f,c.p.symm,(c.g f).symm⟩
theorem GU:∀{a b:List Bd},b.length=a.length->(∀(j:Nat) (h:j<a.length) (i:j<b.length),b[j].ins.l.length≤4 * a[j].ins.l.length)->bK b≤4 * bK a
 | [],[],_,_=>aa
 | [],_::_,h,_=>by grind
 | _::_,[],h,_=>by grind
 | x :: a, y :: b, h, d => by
   have g:=d 0 ag ag;have f:=GU (a:=a) (b:=b) bj fun j k e=>by
    have:=d (j+1) bj bj
    grind
   unfold bK at f ⊢
   grind
section
variable {c d:Cd} {k:Int} {q:Nat} {of T:List (List Int)}
theorem bQ.body (h:bQ c k q d of T)(i:cJ c){j:Nat}(e:j<c.b.l.length)(a:j<d.b.l.length):∃Y o tl,d.b.l[j].ins.l=Y.map (gI T)∧RowsX d.b.l[j].ah c.b.l[j].ins.l Y o tl∧o.filter fe=a_ c.b.l[j].ins.l.length∧Y.length≤4 * c.b.l[j].ins.l.length∧(∀p:j<T.length,tl=T[j])∧(q≤j->Y=c.b.l[j].ins.l):=by
 by_cases g:j<q
 . obtain ⟨m, Y, f, r, n⟩ := h.done j e a (by rw [h.gU]; exact g) (by rw [h.jk]; exact g)
   exact⟨Y,_,_,f,n.toRowsX,n.uy,r,fun _=>rfl,fun s=>aa⟩
 . obtain ⟨m, f⟩ := h.todo j e a aa
   exact⟨_,_,_,f,by rw[m];exact KA ((jw i.ok e).1) (i.gQ e),De _,aa,fun p=>by have:=h.jk;omega,fun _=>rfl⟩
theorem bQ.gn (h:bQ c k q d of T)(i:cJ c)(p:Nat)(j:p<c.b.l.length)(e:p<d.b.l.length)(n:Int)(h0:0≤n)(u:n≤(c.b.l[p].ins.l.length:Int)):0≤gN T p n∧gN T p n≤(d.b.l[p].ins.l.length:Int):=by
 obtain⟨Y,o,g,r,f,_,_,m,s⟩:=h.body i j e;have v:d.b.l[p].ins.l.length=Y.length:=by rw[r,zba]
 unfold gN
 by_cases a:p<T.length
 . rw [if_pos a, ej a, <-m a]
   have:=f.Nv _ (Ho (l:=g) (n:=n.toNat) (by rw[f.Nu];omega))
   omega
 . rw [if_neg a]
   have:=s (by have:=h.jk;omega)
   grind
theorem bQ.ah (h:bQ c k q d of T)(g:cJ c){j:Nat}(e:j<c.b.l.length)(a:j<d.b.l.length)(p:0≤k):0≤d.b.l[j].ah∧d.b.l[j].ah≤k+c.b.l[j].ah:=by
 have n:=(jw g.ok e).1
 by_cases f:j<q
 . obtain ⟨i, _⟩ := h.done j e a (by rw [h.gU]; exact f) (by rw [h.jk]; exact f)
   omega
 . obtain ⟨i, m⟩ := h.todo j e a aa
   omega
theorem bQ.sum (h:bQ c k q d of T)(e:cJ c):bK d.b.l≤4 * bK c.b.l:=GU h.len fun j f a=>by
 obtain⟨Y,o,m,n,_,_,g,_⟩:=h.body e f a
 grind
theorem bQ.code (h:bQ c k q d of T)(e:cJ c)(p:4≤k∧k≤16)(i:∀b∈c.b.l,b.ah≤100)(m:bK c.b.l≤500):cJ d:=
 X9 e h.pr h.len (fun j f a=>by
  have r:=h.ah e f a aa;obtain⟨Y,o,s,t,g,_⟩:=h.body e f a
  grind) (h.gn e) (by have:=h.sum e;omega)
theorem bQ.ck (h:bQ c k q d of T)(a:cJ c)(f:4≤k∧k≤16)(g:∀b∈c.b.l,b.ah≤100)(e:bK c.b.l≤500):bU d=0:=
 (uh d fun m=>zbu sH (by have:=h.sum a;omega)).2 (h.code a f g e)
theorem bQ.graph (h:bQ c k q d of T)(E:cJ c)(K:4≤k∧k≤16)(t:dS c 500 60)(A:q<c.b.l.length){g:Gr}(P:cZ d (q:Int) g) :
 gA g∧g.ins.l=c.b.l[q].ins.l.map (gI T)∧g.ah=c.b.l[q].ah∧∀n:Int,jr c q n->n∈g.entries.l:=by
 have G:∀b∈c.b.l,b.ah≤100:=fun b v=>by have:=t.ah b v;omega
 have w:=h.code E K G t.sum;have Q:=h.ck E K G t.sum;obtain⟨hp,R,U,e,L⟩:=P;have u:q<d.b.l.length:=by rw[h.len];exact A
 have I:g.ins=d.b.l[q].ins:=by simpa using R
 have M:g.ah=d.b.l[q].ah:=by simpa using U
 obtain⟨t1,F⟩:=h.todo q A u (zbm _);have hl:g.ins.l.length=c.b.l[q].ins.l.length:=by rw[I,F,zba]
 have J:=ki (za9 A);have H:=t.sum;have hv:=jw w.ok u;refine⟨Hw (by rw[M];have:=t.ah _ (za9 A);omega) aa (fun i s=>?_) (fun i s=>?_) L ?_,by grind,aa,fun n N=>?_⟩
 . grind
 . rw [I, F] at s
   obtain⟨y,O,rfl⟩:=zbG.1 s;rw[(@jL T y).2.2.2.2.2.2];exact t.fH _ (za9 A) y O
 . intro b v i s f x
   obtain⟨j,B,rfl⟩:=zbo.1 v;obtain⟨g1,g2,g3,g4⟩:=lB w.ok B s f
   grind
 . obtain ⟨b, v, i, s, f, x, rfl⟩ := N
   obtain⟨j,B,rfl⟩:=zbo.1 v;obtain⟨m,S,rfl⟩:=zbo.1 s;have z:j<d.b.l.length:=by rw[h.len];exact B
   obtain⟨Y,o,tl,e1,V,X,_⟩:=h.body E B z;obtain⟨p,Z,_,D⟩:=V.Z1 X S;rcases L with⟨r,_⟩|⟨_,r,_⟩|⟨_,_,_,_,a,_⟩
   . omega
   . omega
   . refine (a _).2 (oE.2 ⟨_, za9 z, gI T Y[p], by grind, ?_⟩)
     obtain⟨k1,k2,_⟩:=@jL T Y[p];have ma:=D.op;have C:Y[p].p=(c.b.l[j].ins.l[m]).p:=D.p;refine⟨aa,aa,?_⟩;rw[rU aa aa,D.g f,C,x,zbt];unfold gN;rw[if_neg (by have:=h.jk;omega)]
theorem bQ.fw (h:bQ c k q d of T)(A:cJ c){j:Nat}(X:j<c.b.l.length)(R:j<T.length){g:Gr}(P:cZ d (j:Int) g):∀x∈g.entries.l,∃n:Int,(0≤n∧n≤(c.b.l[j].ins.l.length:Int))∧jr c j n∧x=T[j].getD n.toNat 0:=fun x v=>by
 obtain⟨_,_,_,e,F⟩:=P;rcases F with⟨_,_,r⟩|⟨_,_,_,r⟩|⟨_,_,_,_,a,_⟩
 . grind
 . omega
 . obtain ⟨b, J, i, E, m, L, rfl⟩ := oE.1 ((a x).1 v)
   obtain⟨M,s,rfl⟩:=zbo.1 J;have f:M<c.b.l.length:=by rw[<-h.len];exact s
   obtain⟨Y,o,V,G,H,_⟩:=h.body A f s;rw[G] at E;obtain⟨y,I,rfl⟩:=zbG.1 E;obtain⟨B,K,_⟩:=@jL T y;obtain⟨z,w,D,Z,N⟩:=Dp H y I (B.symm.trans m);obtain⟨S,U,O,C⟩:=lB A.ok f w D;have u:y.p=(j:Int):=K.symm.trans L;have t:z.p.toNat=j:=aa;simp only[t] at C;refine⟨z.n,⟨O,C⟩,⟨_,za9 f,z,w,D,aa,rfl⟩,?_⟩;rw[rU (B.symm.trans m) aa,u,zbt,<-N];unfold gN
   grind
theorem bQ.fits (h:bQ c k q d of T)(r:cJ c)(hk:4≤k∧k≤16)(hs:dS c 500 60)(hq:q<c.b.l.length){g:Gr}(hg:cZ d (q:Int) g){i:Bd}{S:List (List aA)}{W:Nat->List Int}(hr:i.ah=k)(hS:fD g S)(hF:j3 g S k W i.ins.l) :
 bQ c k (q+1) (kU d q i) (of++[a_ i.ins.l.length]) (T++[a_ (c.b.l[q].ins.l.length+1)]):=by
 obtain⟨hv,hgi,hgr,hge⟩:=h.graph r hk hs hq hg;have hN:=(jw r.ok hq).1;obtain⟨hA,hB⟩:=Sd (N:=c.b.l[q].ah) (E:=jr c q) aa hv hS hF hgi (r.gQ hq) fun n _ hn=>hge n hn
 have hbl:i.ins.l.length=c.b.l[q].ins.l.length:=by rw[hB,zba,oq]
 have e:∀{j:Nat} (a:j<c.b.l.length) {M:Int} {Y:List Ins} {o tl:List Int},RowsX M c.b.l[j].ins.l Y o tl->Y.map (gI (T++[a_ (c.b.l[q].ins.l.length+1)]))=Y.map (gI T):=fun {j} a {M} {Y} {o} {tl} hR=>zbZ fun y hy=>SM fun h16 hp=>by
  obtain⟨z,hz,z1,z2,z3⟩:=Dp hR y hy h16;obtain⟨g1,g2,g3,g4⟩:=lB r.ok a hz z1;have e2:z.p.toNat=q:=by have:=h.jk;omega
  grind
 refine⟨hq,Em.trans h.len,h.pr,by rw[zbk,h.jk];rfl,by rw[zbk,h.gU];rfl,fun j a m hle=>?_,fun j a m ho ht=>?_⟩
 . have f : j < d.b.l.length := by rw [h.len]; exact a
   obtain⟨x1,x2⟩:=h.todo j a f aa;rw[tc f m,if_neg aa,e a (KA (jw r.ok a).1 (r.gQ a))]
   grind
 . have f : j < d.b.l.length := by rw [h.len]; exact a
   rw[tc f m];have hlt:j<q+1:=by rw[zbk,h.jk] at ht;exact ht
   by_cases s:q=j
   . subst s
     rw[if_pos rfl];have e1:(of++[a_ i.ins.l.length])[q]=a_ i.ins.l.length:=by rw[zcC (by have:=h.gU;omega),zcL]
     have e2:(T++[a_ (c.b.l[q].ins.l.length+1)])[q]=a_ (c.b.l[q].ins.l.length+1):=by rw[zcC (by have:=h.jk;omega),zcL]
     refine⟨aa,l7 c.b.l[q].ins.l W,by rw[e a hA.toRowsX];exact hB,by grind,?_⟩
     grind
   . rw [if_neg s]
     have ho':j<of.length:=by rw[h.gU];omega
     have ht':j<T.length:=by rw[h.jk];omega
     obtain⟨x1,Y,x2,x3,x4⟩:=h.done j a f ho' ht';refine⟨x1,Y,by rw[e a x4.toRowsX];exact x2,x3,?_⟩
     grind
theorem bQ.Ls (h:bQ c k q d of T)(hx:cJ c)(hk:4≤k∧k≤16)(u:q<c.b.l.length)(hqd:q<d.b.l.length){p:Cd}{n:List Int}
 (hsp:∃f:Bd,p=ku d q (eM k d.b.l[q].ins.l (d.b.l[q].ins.l.length+1)) f∧f.ah=k+d.b.l[q].ah∧f.ins.l=((dC k d.b.l[q].ins.l).map fun i=>cB i (eM k d.b.l[q].ins.l (d.b.l[q].ins.l.length+1))).map (bT q (eM k d.b.l[q].ins.l (d.b.l[q].ins.l.length+1)))∧n=cI k 0 d.b.l[q].ins.l) :
 bQ c k (q+1) p (of++[n]) (T++[eM k c.b.l[q].ins.l (c.b.l[q].ins.l.length+1)]):=by
 obtain⟨f,rfl,n1,v,rfl⟩:=hsp;obtain⟨t1,t2⟩:=h.todo q u hqd (zbm _);rw[t2,zba,Nr] at v;rw[t2,zba,Nr,Jf];rw[Dn] at v;rw[t1] at n1;have hN:=(jw hx.ok u).1;have hA:=Zo (E:=jr c q) hk.1 hN (hx.gQ u)
 generalize hte:eM k c.b.l[q].ins.l (c.b.l[q].ins.l.length+1)=a at v hA ⊢
 have pat:∀Y:List Ins,(Y.map (gI T)).map (bT q a)=Y.map (gI (T++[a])):=fun Y=>by
  rw[zcz];refine zbZ fun y _=>?_
  show bT q a (gI T y)=_;rw[<-h.jk];exact JB
 have hnb:f.ins.l=((dC k c.b.l[q].ins.l).map fun i=>cB i a).map (gI (T++[a])):=by
  rw[v,<-pat,zcz,zcz,zcz,zcz];refine zbZ fun y _=>?_
  show bT q a (cB (gI T y) a)=bT q a (gI T (cB y a));rw[YN]
 have w:(ku d q a f).b.l.length=d.b.l.length:=by show((d.b.l.map (kk q a)).set q f).length=_;rw[zbP,zba]
 have m:∀(j:Nat) (e:j<d.b.l.length) (g:j<(ku d q a f).b.l.length),j≠q->(ku d q a f).b.l[j]=kk q a d.b.l[j]:=fun j e g cF=>by
  show((d.b.l.map (kk q a)).set q f)[j]'bj=_
  grind
 refine⟨u,w.trans h.len,h.pr,by rw[zbk,h.jk];rfl,by rw[zbk,h.gU];rfl,fun j r g hle=>?_,fun j r g ho ht=>?_⟩
 . have e : j < d.b.l.length := by rw [h.len]; exact r
   obtain⟨x1,x2⟩:=h.todo j r e aa;rw[m j e g aa];refine⟨x1,?_⟩;show d.b.l[j].ins.l.map (bT q a)=_
   grind
 . have e : j < d.b.l.length := by rw [h.len]; exact r
   have hlt:j<q+1:=by rw[zbk,h.jk] at ht;exact ht
   by_cases o:j=q
   . subst o
     have e0:(ku d j a f).b.l[j]=f:=by
      show((d.b.l.map (kk j a)).set j f)[j]'bj=_;rw[getElem_set,if_pos rfl]
     have e1:(of++[cI k 0 c.b.l[j].ins.l])[j]=cI k 0 c.b.l[j].ins.l:=by rw[zcC (by have:=h.gU;omega),zcL]
     have e2:(T++[a])[j]=a:=by rw[zcC (by have:=h.jk;omega),zcL]
     rw[e0];refine⟨aa,_,hnb,by rw[zba];exact Dq,?_⟩
     grind
   . rw [m j e g o]
     have s:j<of.length:=by rw[h.gU];omega
     have t:j<T.length:=by rw[h.jk];omega
     obtain⟨x1,Y,x2,x3,x4⟩:=h.done j r e s t;refine⟨x1,Y,?_,x3,?_⟩
     . show d.b.l[j].ins.l.map (bT q a) = _
       grind
     . rw [getElem_append_left s, getElem_append_left t]
       exact x4
end
end Go.Ago
end
namespace Go.Ago
open Go.Proofs List Nat
structure q0 (c d:Cd)(of:List (List Int)):Prop where
 pr:d.p=c.p
 lc:d.b.l.length=c.b.l.length
 lo:of.length=c.b.l.length
 ol:∀(j:Nat) (h':j<d.b.l.length) (ho:j<of.length),of[j].length=d.b.l[j].ins.l.length
 row:∀(j:Nat) (h:j<c.b.l.length) (h':j<d.b.l.length) (ho:j<of.length) (p:Nat) (hp:p<d.b.l[j].ins.l.length),(of[j].getD p 0 = -1∧d.b.l[j].ins.l[p].op=3) ∨
  ∃(n:Nat) (hn:n<c.b.l[j].ins.l.length),of[j].getD p 0=(n:Int)∧SimI c.b.l[j].ins.l[n] d.b.l[j].ins.l[p]∧((bP d.b.l[j].ins.l[p]).map fun t=>((cR of[j] t.toNat:Nat):Int))=bP c.b.l[j].ins.l[n] ∧
   (c.b.l[j].ins.l[n].op=16->((cR (of.getD c.b.l[j].ins.l[n].p.toNat []) d.b.l[j].ins.l[p].n.toNat:Nat):Int)=c.b.l[j].ins.l[n].n)
 uy:∀(j:Nat) (h:j<c.b.l.length) (ho:j<of.length),of[j].filter fe=a_ c.b.l[j].ins.l.length
def EN (c d:Cd)(e:List (List Int)):Prop:=∀(j:Nat) (h:j<c.b.l.length) (i:j<d.b.l.length) (g:j<e.length),∃I:Nat->Int->Int->Prop,∀a:Gr,a.ins.l=d.b.l[j].ins.l->(∀x∈a.entries.l,jr d j x)->
 px I (bM c.b.l[j].ins.l e[j] a)∧∀(p n:Nat) (k:p<a.ins.l.length) (f:n<c.b.l[j].ins.l.length),e[j].getD p 0=(n:Int)->Reads (I p) (aQ a.ins.l[p]) (aQ c.b.l[j].ins.l[n])
def q9 (k:Int)(d:Cd):Prop:=∀b∈d.b.l,k≤b.ah∧∀i∈b.ins.l,j2 k i
structure vD (c:Cd)(k:Int)(d:Cd)(of:List (List Int)):Prop where
 hc:cJ c
 hd:cJ d
 hf:q9 k d
 co:q0 c d of
 sh:EN c d of
theorem bQ.Rl {c d:Cd}{k:Int}{q:Nat}{A T:List (List Int)}(h:bQ c k q d A T)(r:cJ c){j:Nat}(Q:j<c.b.l.length)(L:j<T.length){x:Int}(K:jr d j x):∃n:Int,(0≤n∧n≤(c.b.l[j].ins.l.length:Int))∧jr c j n∧x=T[j].getD n.toNat 0:=by
 obtain⟨b,B,i,w,e,C,rfl⟩:=K;obtain⟨H,f,rfl⟩:=zbo.1 B;have a:H<c.b.l.length:=by rw[<-h.len];exact f
 obtain⟨Y,o,O,D,E,_⟩:=h.body r a f;rw[D] at w;obtain⟨y,F,rfl⟩:=zbG.1 w;obtain⟨t,I,_⟩:=@jL T y;obtain⟨z,u,s,P,G⟩:=Dp E y F (t.symm.trans e);obtain⟨M,N,J,v⟩:=lB r.ok a u s;have m:y.p=(j:Int):=I.symm.trans C;have g:z.p.toNat=j:=aa;simp only[g] at v;refine⟨z.n,⟨J,v⟩,⟨_,za9 a,z,u,s,aa,rfl⟩,?_⟩;rw[rU (t.symm.trans e) aa,m,zbt,<-G];unfold gN
 grind
theorem cZ.fw {c:Cd}{j:Nat}{g:Gr}(h:cZ c (j:Int) g):∀x∈g.entries.l,jr c j x:=fun x f=>by
 obtain⟨_,_,_,e,k⟩:=h;rcases k with⟨_,_,r⟩|⟨_,_,_,r⟩|⟨_,_,_,_,a,_⟩
 . grind
 . omega
 . obtain ⟨b, m, i, n, o, p, d⟩ := oE.1 ((a x).1 f)
   exact⟨b,m,i,n,o,p,d.symm⟩
theorem bQ.Qr {c d:Cd}{k:Int}{v T:List (List Int)}(h:bQ c k c.b.l.length d v T)(D:cJ c)(hk:4≤k∧k≤16)(hr:∀b∈c.b.l,b.ah≤100)(hs:bK c.b.l≤500):vD c k d v:=by
 have L:=h.code D hk hr hs;have w:∀(j:Nat) (e:j<c.b.l.length) (f:j<d.b.l.length) (m:j<v.length),∃(z:j<T.length),(k≤d.b.l[j].ah∧d.b.l[j].ah≤k+c.b.l[j].ah)∧∃Y,d.b.l[j].ins.l=Y.map (gI T)∧Y.length≤4 * c.b.l[j].ins.l.length∧vC c.b.l[j].ah d.b.l[j].ah k c.b.l[j].ins.l (jr c j) Y v[j] T[j]:=fun j e f m=>⟨by rw[h.jk];exact e,h.done j e f m _⟩
 refine⟨D,L,fun b hb=>?_,⟨h.pr,h.len,h.gU,fun j Z m=>?_,fun j e f m p hp=>?_,fun j e m=>?_⟩,fun j e f m=>?_⟩
 . obtain ⟨j, e, rfl⟩ := zbo.1 hb
   have r:j<c.b.l.length:=by rw[<-h.len];exact e
   obtain⟨z,A,Y,q,_,o⟩:=w j r e (by rw[h.gU];omega)
   refine⟨A.1,fun i B=>?_⟩
   rw[q] at B;obtain⟨y,hy,rfl⟩:=zbG.1 B;obtain⟨H,_,k3,k4,k5,_⟩:=@jL T y;unfold j2;rw[H,k3,k4,k5];exact o.fit y hy
 . have r : j < c.b.l.length := by rw [<-h.len]; exact Z
   obtain⟨z,A,Y,q,_,o⟩:=w j r Z m;rw[o.ol,q,zba]
 . obtain ⟨z, A, Y, q, _, o⟩ := w j e f m
   have M:p<Y.length:=by rw[q,zba] at hp;exact hp
   have G:d.b.l[j].ins.l[p]=gI T Y[p]:=by simp only[q,zcl]
   obtain⟨H,k2,k3,k4,k5,k6,k7⟩:=@jL T Y[p];rcases o.row p M with⟨N,dd,a,_,_,e2⟩|⟨n,O,N,u⟩
   . exact .inl ⟨N,by rw[G,H,e2];rfl⟩
   . refine .inr ⟨n, O, N, by rw [G]; exact u.gs T, ?_, fun C => ?_⟩
     . have B := D.gQ e _ (za9 O)
       have P:(gI T Y[p]).op=c.b.l[j].ins.l[n].op:=H.trans u.op;have E:∀t:Int,0≤t∧t≤(c.b.l[j].ins.l.length:Int)->((cR v[j] (T[j].getD t.toNat 0).toNat:Nat):Int)=t:=fun t s=>by
        rw[o.LK t.toNat aa];omega
       rw[G];unfold bP;rw[P]
       by_cases F:c.b.l[j].ins.l[n].op=14∨c.b.l[j].ins.l[n].op=15
       . rw[if_pos F,if_pos F,BR aa,u.tn F,map_singleton,E _ (B.t _ (by unfold bP;grind))]
       . rw [if_neg F, if_neg F]
         by_cases Q:c.b.l[j].ins.l[n].op=28∨c.b.l[j].ins.l[n].op=29
         . rw[if_pos Q,if_pos Q,k6,u.tm Q,map_singleton,E _ (B.t _ (by unfold bP;grind))]
         grind
     . obtain ⟨K, g2, g3, g4⟩ := lB D.ok e (za9 O) C
       have g5:c.b.l[j].ins.l[n].p.toNat<d.b.l.length:=by rw[h.len];exact K
       have g6:c.b.l[j].ins.l[n].p.toNat<v.length:=by rw[h.gU];exact K
       obtain⟨s,_,Y2,_,_,S⟩:=w _ K g5 g6;have U:Y[p].p=c.b.l[j].ins.l[n].p:=u.p;rw[G,rU (by rw[u.op];omega) aa,U,u.g C,ej g6]
       unfold gN;rw[if_pos s,ej s,S.LK _ aa];omega
 . have R : j < d.b.l.length := by rw [h.len]; exact e
   obtain⟨z,A,Y,q,_,o⟩:=w j e R m;exact o.uy
 . obtain ⟨z, A, Y, q, _, o⟩ := w j e f m
   obtain⟨I,hI⟩:=o.cf;refine⟨I,fun gd V X=>?_⟩
   exact hI gd (by rw[V,q];exact(BS T Y).any) fun x J=>h.Rl D e z (X x J)
theorem LU {o:List Int}{m:Nat}(h:o.filter fe=a_ m)(p:Nat):(o.take p).filter fe=a_ (cR o p)∧cR o p≤m:=by
 have e:o.filter fe=(o.take p).filter fe++(o.drop p).filter fe:=by rw[<-zb5,zb7]
 have a:cR o p≤m:=by
  have:=zbc length (e.symm.trans h);rw[zbk,ib] at *;unfold cR;omega
 refine⟨?_,a⟩;have b:(o.take p).filter fe=(a_ m).take (cR o p):=by
  rw[<-h,e];unfold cR;simp
 rw[b,J0 a]
theorem map_take {o:List Int}{s:Nat}(h:s≤o.length):(a_ s).map (fun n=>o.getD n.toNat 0)=o.take s:=by
 refine zcx (by rw[zba,ib,zbA,zcw h]) fun n b a=>?_
 have e:(a_ s)[n]'bj=(n:Int):=by simp[a_]
 grind
theorem SimI.trans {x y z:Ins}(e:SimI x y)(f:SimI y z):SimI x z:=by
 have h:=e.op;refine⟨?_,fun a b c=>?_,fun a b=>?_,?_,?_,?_,f.l.trans e.l⟩
 . have i := e.eq
   have g:=f.eq
   grind
 . exact(f.n aa aa aa).trans (e.n a b c)
 . exact(f.m aa aa).trans (e.m a b)
 . have:=e.d;have:=f.d;omega
 . have:=e.a;have:=f.a;omega
 . have:=e.b;have:=f.b;omega
theorem SimI.uu {x y:Ins}(h:SimI x y):cS y↔cS x:=by unfold cS;rw[h.op]
theorem SimI.quiet {x y:Ins}(h:SimI x y):iw y↔iw x:=by
 have a:=h.op;unfold iw;rw[a]
 by_cases b:x.op=4
 . rw[h.n aa aa aa]
 . omega
end Go.Ago
section
namespace Go.Ago
open Go.Proofs List Nat
theorem Le {C:List Ins}{o:List Int}{g:Gr}{p:Nat}(a:p<g.ins.l.length):(bM C o g).st[p]? = some (nR (C.getD (o.getD p 0).toNat sb) g.ins.l[p] (o.getD p 0)):=by
 simp only[bM,zbC,getElem?_range a,zcn,ej a]
theorem DJ {C:List Ins}{o:List Int}{g:Gr}{p:Nat}(c:p<g.ins.l.length)(b:o.getD p 0 = -1):(bM C o g).st[p]? = some (.mv g.ins.l[p].d g.ins.l[p].a):=by
 rw[Le _,b];rfl
theorem DK {C:List Ins}{o:List Int}{g:Gr}{p n:Nat}(a:p<g.ins.l.length)(c:n<C.length)(b:o.getD p 0=(n:Int)):(bM C o g).st[p]? = some (.op (decide (cS g.ins.l[p])) (aH C[n]) (aH g.ins.l[p])):=by
 rw[Le a];unfold nR
 grind
theorem DX {o:List Int}{p:Nat}(a:p<o.length):(o.take (p+1)).filter fe=(o.take p).filter fe++(if 0≤o[p] then [o[p]] else []):=by
 rw[zbi a,zb5]
 congr 1
 by_cases h:0≤o[p]
 . rw[if_pos h,filter_cons_of_pos (p:=fe) (zbF h)];rfl
 . rw[if_neg h,filter_cons_of_neg (by unfold fe;grind)];rfl
theorem LM {o:List Int}{p:Nat}(a:p<o.length)(h:o.getD p 0 = -1):cR o (p+1)=cR o p:=by
 rw[ej a] at h;unfold cR;rw[DX a,if_neg aa,zcX]
theorem LN {o:List Int}{m p n:Nat}(c:o.filter fe=a_ m)(a:p<o.length)(h:o.getD p 0=(n:Int)):cR o p=n∧cR o (p+1)=n+1:=by
 rw[ej a] at h;have d:=(LU c p).1;have b:=(LU c (p+1)).1;have e:cR o (p+1)=cR o p+1:=by
  unfold cR;rw[DX a,if_pos aa,zbk];rfl
 rw[DX a,if_pos aa,d,e,u4] at b;have:=append_cancel_left b
 grind
theorem LL {o:List Int}{m:Nat}(a:o.filter fe=a_ m):cR o o.length=m:=by
 unfold cR;rw[zcI,a,ib]
theorem Reads.trans {P Q R:Int->Int->Prop}{a b c:List Int}(e:Reads P a b)(d:Reads Q b c)(h:∀l m r,P l m->Q m r->R l r):Reads R a c:=⟨e.1.trans d.1,fun n l r g i=>by
 obtain⟨m,j,f⟩:=d.at_ i;exact h l m r (e.2 n l m g j) f⟩
theorem SimI.gx {x y:Ins}(h:SimI x y):(aH x = -1∧aH y = -1)∨(0≤aH x∧0≤aH y):=by
 unfold aH;rw[h.op];split
 . exact h.d
 simp
section
variable {c d x:Cd} {o1 o2:List (List Int)}
end
end Go.Ago
end
namespace Go.Ago
open Go.Proofs List Nat
theorem Bh {d:Cd}(f:cJ d){j:Nat}(o:j<d.b.l.length){x:Int}(h:jr d j x):0≤x∧x≤(d.b.l[j].ins.l.length:Int):=by
 obtain⟨b,e,i,c,a,m,rfl⟩:=h;obtain⟨n,g,rfl⟩:=zbo.1 e;obtain⟨p,q,r,k⟩:=lB f.ok _ c a
 grind
theorem YX {c d:Cd}{r:List (List Int)}(I:cJ c)(v:cJ d)(K:q0 c d r){j:Nat}(E:j<c.b.l.length)(e:j<d.b.l.length)(F:j<r.length){g:Gr}(H:g.ins.l=d.b.l[j].ins.l)(C:∀x∈g.entries.l,jr d j x) :
 (bM c.b.l[j].ins.l r[j] g).Ok d.b.l[j].ah c.b.l[j].ah∧(bM c.b.l[j].ins.l r[j] g).Pl:=by
 have q:g.ins.l.length=d.b.l[j].ins.l.length:=by rw[H]
 have B:∀(p:Nat) (a:p<g.ins.l.length),g.ins.l[p]=d.b.l[j].ins.l[p]'aa:=fun p a=>by grind
 refine⟨fun s N=>?_,⟨fun l G t o=>?_,fun t o=>?_⟩⟩
 . obtain ⟨p, k, J⟩ := zbo.1 N
   have a:p<g.ins.l.length:=by rw[kT] at k;exact k
   have f:p<d.b.l[j].ins.l.length:=by rw[<-q];exact a
   have i:(bM c.b.l[j].ins.l r[j] g).st[p]? = some s:=by rw[zbf k,J]
   have m:=v.gQ e _ (za9 f);rcases K.row j E e F p f with⟨z,y⟩|⟨n,D,z,y,_⟩
   . rw [DJ a z, B p a] at i
     cases i;have A:=m.mv y;have L:=m.d;show 0≤d.b.l[j].ins.l[p].d∧d.b.l[j].ins.l[p].d<d.b.l[j].ah;omega
   . rw [DK a D z, B p a] at i
     cases i;intro M;have u:=I.gQ E _ (za9 D);have A:=y.gx;rw[m.sd] at M A ⊢;rw[u.sd] at A ⊢;have L:=m.d;have O:=u.d;omega
 . rw [kT]
   obtain⟨p,a,rfl⟩:=zbG.1 (show l∈(List.range g.ins.l.length).map (aY g) from G)
   have a:=zcf.1 a;have f:p<d.b.l[j].ins.l.length:=by rw[<-q];exact a
   have m:=v.gQ e _ (za9 f);unfold aY at o;rw[dif_pos a,B p a] at o;have w:t∈bP (d.b.l[j].ins.l[p])∨t∈g.entries.l:=by
    split at o
    . grind
    . grind
   rcases w with h|h
   . have:=m.t t h;omega
   . have:=Bh v e (C t h);omega
 . rw [kT]
   have:=Bh v e (C t o);omega
structure mO (a b:Ins):Prop where
 op:b.op=a.op
 d:b.d=a.d
 n:b.n=a.n
 m:b.m=a.m
 p:b.p=a.p
theorem mO.refl (a:Ins):mO a a:=⟨rfl,rfl,rfl,rfl,rfl⟩
structure tP (d e:Cd)(j0 p0:Nat):Prop where
 len:e.b.l.length=d.b.l.length
 il:∀(j:Nat) (h:j<d.b.l.length) (h':j<e.b.l.length),e.b.l[j].ins.l.length=d.b.l[j].ins.l.length
 same:∀(j:Nat) (h:j<d.b.l.length) (h':j<e.b.l.length) (p:Nat) (hp:p<d.b.l[j].ins.l.length) (hp':p<e.b.l[j].ins.l.length),mO d.b.l[j].ins.l[p] e.b.l[j].ins.l[p]∧(¬(j=j0∧p=p0)->e.b.l[j].ins.l[p]=d.b.l[j].ins.l[p])
theorem tP.fw {d e:Cd}{u w:Nat}(h:tP d e u w){j:Nat}{x:Int}:jr e j x↔jr d j x:=by
 constructor
 . rintro ⟨b, r, i, o, k, q, rfl⟩
   obtain⟨f,a,rfl⟩:=zbo.1 r;obtain⟨p,c,rfl⟩:=zbo.1 o;have v:f<d.b.l.length:=by rw[<-h.len];exact a
   have t:p<d.b.l[f].ins.l.length:=by rw[<-h.il f _ _];exact c
   have s:=(h.same f _ a p t c).1;exact⟨_,za9 _,_,za9 _,s.op.symm.trans k,s.p.symm.trans q,s.n.symm⟩
 rintro⟨b,r,i,o,k,q,rfl⟩
 obtain⟨f,a,rfl⟩:=zbo.1 r;obtain⟨p,c,rfl⟩:=zbo.1 o;have g:f<e.b.l.length:=by rw[h.len];exact a
 have m:p<e.b.l[f].ins.l.length:=by rw[h.il f a g];exact c
 have s:=(h.same f a g p c m).1;exact⟨_,za9 g,_,za9 m,s.op.trans k,s.p.trans q,s.n⟩
structure zY (d:Cd)(j:Nat)(l:List Int):Prop where
 mem:∀x,x∈l↔jr d j x
 inc:l.Pairwise (·<·)
theorem cZ.dZ {c:Cd}{j:Nat}(p:bU c=0){g:Gr}(h:cZ c (j:Int) g):zY c j g.entries.l:=by
 obtain⟨q,_,_,e,o⟩:=h;rcases o with⟨r,_⟩|⟨_,r,_⟩|⟨_,_,_,_,a,b⟩
 . omega
 . omega
 . refine ⟨fun x => (a x).trans (oE.trans ⟨?_, ?_⟩), b⟩
   . rintro ⟨b, f, i, m, k, n, d⟩
     exact⟨b,f,i,m,k,n,d.symm⟩
   . rintro ⟨b, f, i, m, k, n, d⟩
     grind
theorem tP.sk {d e:Cd}{t u:Nat}(h:tP d e t u){C:List Ins}{o:List Int}{j:Nat}(y:j<d.b.l.length)(s:j<e.b.l.length)(B:j=t->0≤o.getD u 0){g g':Gr}(A:g.ins.l=d.b.l[j].ins.l)(v:g'.ins.l=e.b.l[j].ins.l)(z:zY d j g.entries.l)(r:zY e j g'.entries.l) :
 bM C o g'=bM C o g:=by
 have i:g'.entries.l=g.entries.l:=C2 r.inc z.inc fun x=>by rw[r.mem,z.mem,h.fw]
 have k:g'.ins.l.length=g.ins.l.length:=by rw[A,v];exact h.il j y s
 have q:∀(p:Nat) (c:p<g.ins.l.length) (a:p<g'.ins.l.length),mO g.ins.l[p] g'.ins.l[p]∧(¬(j=t∧p=u)->g'.ins.l[p]=g.ins.l[p]):=fun p c a=>by
  have:=h.same j y s p bj bj
  grind
 unfold bM;rw[k,i]
 congr 1
 . refine zbZ fun p c => ?_
   have c:=zcf.1 c;have a:p<g'.ins.l.length:=by rw[k];exact c
   obtain⟨f,E⟩:=q p c a;rw[ej c,ej a]
   by_cases w:j=t∧p=u
   . have F : 0 ≤ o.getD p 0 := by rw [w.2]; exact B w.1
     unfold nR;rw[if_neg aa,if_neg aa,K7 f.op f.d]
     congr 1
     refine decide_eq_decide.2 ?_;unfold cS;rw[f.op]
   grind
 . refine zbZ fun p c => ?_
   have c:=zcf.1 c;have a:p<g'.ins.l.length:=by rw[k];exact c
   obtain⟨f,_⟩:=q p c a;unfold aY;rw[dif_pos c,dif_pos a,i];have D:bP g'.ins.l[p]=bP g.ins.l[p]:=by unfold bP;rw[f.op,f.n,f.m]
   have w:iw g'.ins.l[p]↔iw g.ins.l[p]:=by unfold iw;rw[f.op,f.n]
   grind
theorem ZJ {o:List Int}:cR o 0=0:=rfl
theorem y_ {o:List Int}{p:Nat}(a:o.length≤p):cR o p=cR o o.length:=by unfold cR;grind
def ee (o:List Int)(L n:Nat):List Int:=(List.range (L+1)).map fun p=>if p<n then 0 else (cR o p:Int)
theorem qP {o:List Int}{L n:Nat}:(ee o L n).length=L+1:=by simp[ee]
theorem Zv {o:List Int}{L:Nat}:ee o L (L+1)=replicate (L+1) 0:=by
 refine zcx (by simp[ee]) fun i b c=>?_
 have a:i<L+1:=by grind
 simp[ee,a]
theorem LB {o:List Int}{L n i:Nat}(h:i<(ee o L n).length):(ee o L n)[i]=if i<n then 0 else (cR o i:Int):=by simp[ee]
theorem Zx {o:List Int}{L n:Nat}(h:n≤L):(ee o L (n+1)).set n (cR o n:Int)=ee o L n:=by
 refine zcx (by simp[ee]) fun i b a=>?_
 rw[getElem_set,LB _,LB]
 grind
theorem Zw {o:List Int}{L p:Nat}(h:p≤L):(ee o L 0).getD p 0=(cR o p:Int):=by
 have a:p<(ee o L 0).length:=by rw[qP];omega
 rw[ej a];simp[ee]
end Go.Ago
