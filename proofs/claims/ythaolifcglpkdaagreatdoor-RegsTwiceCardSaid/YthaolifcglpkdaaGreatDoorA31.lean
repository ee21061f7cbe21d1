/-
  Part A31: lemmas, each with its own conditions.
-/
import Derived.Test.YthaolifcglpkdaaGreatDoorA28
import Derived.Test.YthaolifcglpkdaaGreatDoorA30
set_option maxRecDepth 100000
set_option maxHeartbeats 0
set_option linter.all false
section
namespace Go.Ago
open List Nat
def AE.still (b:AE):Prop:=∀(c a:Ctx) (w:World) (e:Ending),a.au=c.au->lS c w b e->lS a w b e
theorem Za {cs:List AV}(h:(cs.all hY)=true):AE.still (.ret (.agg cs)):=by
 intro c l w e k a;cases e<;>first|exact a.elim|skip
 cases a with
 | agg j g =>
   exact Rel.agg j fun i x v b d=>wV k (g i x v b d) (all_eq_true.1 h x (mem_of_getElem? b))
variable {P:Program} {E:Env}
theorem AC.Bo {g:FuncId}{args l:List AV}{H u:ai}{nx d:Nat}{R R0:AE->ai->Nat->Prop}(ρ:Nat->Nat)(h:AC P E g l u d R0)
 (hr:args=l.map (AV.r2 ρ))(hl:l.all (AV.l2 d)=true)(Z:∀k o,u.get k=some o->k<d∧H.get (ρ k)=some o∧o.eF)
 (hi:∀k k' o o',u.get k=some o->u.get k'=some o'->ρ k=ρ k'->k=k')
 (hq:∀L H' F,R0 L H' F->AE.still L∧∃H2,tG ρ u H' H H2∧R L H2 nx):AC P E g args H nx R:=by
 refine⟨h.1,fun c w vs p hf T=>?_⟩
 have m:∀k,k<d->(⟨fun k=>if k<d then c.f (ρ k) else none,c.au⟩:Ctx).f k=c.f (ρ k):=fun k r=>if_pos r
 have hbare:(⟨fun k=>if k<d then c.f (ρ k) else none,c.au⟩:Ctx).bare=c.bare:=rfl
 have hw0:aN E.bR ⟨fun k=>if k<d then c.f (ρ k) else none,c.au⟩ w u:=by
  refine⟨p.bH,fun k B e=>?_,fun k o e=>?_,fun k k' o o' B Y e e' f f' i=>?_,fun g cs e=>?_⟩
  . by_cases r : k < d
    . rw[m k r] at e;exact p.bX _ B e
    grind
  . obtain ⟨K, G, g3⟩ := Z k o e
    obtain⟨B,A,b2,O⟩:=p.obj _ _ G;exact⟨B,(m k K).trans A,b2,fH.eF (c:=c) rfl O g3⟩
  . obtain ⟨K, G, _⟩ := Z k o e
    obtain⟨g1',g2',_⟩:=Z k' o' e';rw[m k K] at f;rw[m k' g1'] at f';exact hi k k' o o' e e' (p.inj _ _ _ _ B Y G g2' f f' i)
  . have := p.bR g cs e
    cases this with
    | bq z J Q h4=>exact .bq z J Q h4
 have hr0:aQ ⟨fun k=>if k<d then c.f (ρ k) else none,c.au⟩ w l vs:=by
  subst hr;exact qD (c:=c) (f:=AV.r2 ρ) (fun y v a b=>sJ (c:=c) (c':=⟨fun k=>if k<d then c.f (ρ k) else none,c.au⟩) (ρ:=ρ) (n:=d) rfl m a b) hl T.1 T.2
 have D:∀b,Own ⟨fun k=>if k<d then c.f (ρ k) else none,c.au⟩ u b->∃k I B,u.get k=some I∧H.get (ρ k)=some I∧c.f (ρ k)=some B∧B.b=b:=by
  rintro b ⟨k,o,B,r,S,rfl⟩
  obtain⟨K,G,_⟩:=Z k o r;rw[m k K] at S;exact⟨k,o,B,r,G,S,rfl⟩
 have t:∀b,Own ⟨fun k=>if k<d then c.f (ρ k) else none,c.au⟩ u b->Own c H b:=fun b i=>by
  obtain⟨k,o,B,_,J,Q,h4⟩:=D b i;exact⟨ρ k,o,B,J,Q,h4⟩
 refine(h.2 _ w vs hw0 (fun k r=>if_neg (Nat.not_lt.2 r)) hr0).mono ?_
 rintro e w' ⟨M,H',F,L,q,U,_,_,her,hR⟩
 obtain⟨hfl,H2,N,hR2⟩:=hq L H' F hR;have W:∀b,c.au b->w'.heap[b]? = w.heap[b]?:=fun b i=>q.other b (p.bH b i) fun X=>p.kO i (t b X)
 have V:c.le ⟨c.f,M.au⟩:=⟨fun _ _ e=>e,fun b i=>q.au b i⟩
 have C:∀{x v},Rel c w x v->Rel ⟨c.f,M.au⟩ w' x v:=fun hr=>hr.mono V W
 have s:∀j o,H2.get j=some o->∃o1,H.get j=some o1:=fun j o e=>by
  rcases N j o e with⟨z,_⟩|⟨k,I,z,rfl,_⟩
  . grind
  grind
 refine⟨⟨c.f,M.au⟩,H2,nx,L,⟨fun _ _=>rfl,fun b i=>q.au b i,q.os,q.tape,q.output,q.size,fun b i hn=>q.other b i fun X=>hn (t b X),fun b i=>?_,fun b i=>?_⟩,
  ⟨U.bH,fun k B e=>Nat.lt_of_lt_of_le (p.bX k B e) q.size,fun j o e=>?_,fun k k' o o' B Y e e' f f' i=>?_,fun g cs e=>C (p.bR g cs e)⟩,Nat.le_refl _,hf,?_,hR2⟩
 . rcases q.eG b i with g | g | g
   . grind
   . grind
   omega
 . obtain ⟨j, o, B, e1, e2, rfl⟩ := i
   obtain⟨o1,e3⟩:=s j o e1;exact .inl ⟨j,o1,B,e3,e2,rfl⟩
 . rcases N j o e with ⟨z, J⟩ | ⟨k, I, z, rfl, J, Q⟩
   . obtain ⟨B, A, b2, O⟩ := p.obj j o z
     have hno:¬Own ⟨fun k=>if k<d then c.f (ρ k) else none,c.au⟩ u B.b:=fun X=>by
      obtain⟨k,I,Y,K,G,g3,g4⟩:=D _ X;exact J k I K (p.inj _ _ _ _ Y B G z g3 A g4)
     refine⟨B,A,fun hi=>?_,O.mono (q.other _ (p.bX _ _ A) hno) C (fun b i=>⟨V.au b i,W b i⟩)⟩
     rcases q.eG _ hi with g|g|g
     . grind
     . grind
     . have:=p.bX _ _ A;omega
   . obtain ⟨B, A, b2, O⟩ := U.obj k o J
     have r:=(Z k I z).1;exact⟨B,((q.f k r).trans (m k r)).symm.trans A,b2,fH.eF (c:=M) rfl O Q⟩
 . obtain ⟨o1, e1⟩ := s k o e
   obtain⟨o2,e2⟩:=s k' o' e';exact p.inj _ _ _ _ B Y e1 e2 f f' i
 . exact hfl M ⟨c.f,M.au⟩ w' e rfl her
theorem DC.Bo {g:FuncId}{args b:List AV}{H d:ai}{nx c:Nat}{R i:AE->ai->Nat->Prop}(ρ:Nat->Nat)(h:DC P E g b d c i)
 (q:args=b.map (AV.r2 ρ))(p:b.all (AV.l2 c)=true)(j:∀k o,d.get k=some o->k<c∧H.get (ρ k)=some o∧o.eF)
 (hi:∀k k' o o',d.get k=some o->d.get k'=some o'->ρ k=ρ k'->k=k')
 (m:∀e H' f,i e H' f->AE.still e∧∃H2,tG ρ d H' H H2∧R e H2 nx):DC P E g args H nx R:=by
 obtain⟨e,H',f,r,s⟩:=h;obtain⟨t,H2,u,l⟩:=m _ _ _ s;exact⟨e,H2,nx,AC.Bo _ r q p j hi (fun a h n j=>by grind),l⟩
theorem DC.GU {g:FuncId}{args a:List AV}{H:ai}{nx k:Nat}{o:an}{R:AE->ai->Nat->Prop}{i:AE->ai->Nat->Prop}(h:DC P E g a (.put 0 (some o) .nil) 1 i)
 (l:args=a.map (AV.r2 fun _=>k))(p:a.all (AV.l2 1)=true)(A:H.get k=some o)(w:o.eF)
 (n:∀f H' c,i f H' c->AE.still f∧∃o',H'.get 0=some o'∧o'.eF∧R f (.put k (some o') H) nx):DC P E g args H nx R:=by
 have q:∀j d,(Tr.put 0 (some o) Tr.nil:ai).get j=some d->j=0∧d=o:=by
  intro j d e;rw[Tr.get] at e;cases b:beq j 0 with
  | true=>simp_all
  | false=>rw[b] at e;cases e
 refine DC.Bo (fun _=>k) h l p (fun j d e=>?_) (fun j x d y e z _=>?_) fun f H' c m=>?_
 . grind
 . grind
 . obtain ⟨t, o', s, u, v⟩ := n f H' c m
   refine⟨t,_,fun j d e=>?_,v⟩
   rw[Tr.get] at e;cases b:beq j k with
   | true =>
     rw[b] at e;cases e;exact .inr ⟨0,o,rfl,(eq_of_beq_eq_true b).symm,s,u⟩
   | false =>
     rw[b] at e;refine .inl ⟨e,fun B C _ r=>?_⟩
     subst r
     simp_all
theorem DC.oI {g:FuncId}{args:List AV}{H:ai}{nx:Nat}{R R':AE->ai->Nat->Prop}(h:DC P E g args H nx R)(i:∀a H' n,R a H' n->∃x y,a = .ret x∧n4 x y∧R' (.ret y) H' n):DC P E g args H nx R':=by
 obtain⟨a,H',b,⟨s,j⟩,k⟩:=h;obtain⟨x,y,rfl,l,m⟩:=i _ _ _ k;refine⟨.ret y,H',b,⟨s,fun c w C p q d=>(j c w _ p q d).mono ?_⟩,m⟩
 rintro e B ⟨t,o,u,D,r,z,v,A,f,rfl,rfl,rfl⟩
 refine⟨t,o,u,.ret y,r,z,v,A,?_,rfl,rfl,rfl⟩;cases e<;>first|exact f.elim|exact l.rel f
theorem DC.R9 {g:FuncId}{args:List AV}{H:ai}{nx:Nat}{R R':AE->ai->Nat->Prop}(h:DC P E g args H nx R)(W:∀A H' n,R A H' n->∃nm o x y,A = .ret x∧H'.get nm=some o∧gJ nm o x y∧R' (.ret y) (.put nm none H') n):DC P E g args H nx R':=by
 obtain⟨A,H',u,⟨X,U⟩,V⟩:=h;obtain⟨nm,o,x,y,rfl,D,G,h4⟩:=W A H' u V;refine⟨.ret y,.put nm none H',u,⟨X,fun c w vs hw hf N=>(U c w vs hw hf N).mono ?_⟩,h4⟩
 rintro e s ⟨d,r,Y,a2,j,l,k3,k4,Q,rfl,rfl,rfl⟩
 obtain⟨B,J,b2,b3⟩:=l.obj nm o D;have z:d.le ⟨d.f,fun b=>d.au b∨b=B.b⟩:=⟨fun _ _ e=>e,fun _ a => .inl a⟩
 have p:∀{x v},Rel d s x v->Rel ⟨d.f,fun b=>d.au b∨b=B.b⟩ s x v:=fun O=>O.mono z (fun _ _=>rfl)
 have t:Own d r B.b:=⟨nm,o,B,D,J,rfl⟩;have i:∀k b,(Tr.put nm none r:ai).get k=some b->k≠nm∧r.get k=some b:=by
  intro k b e;rw[Tr.get] at e;cases a:beq k nm with
  | true=>grind
  | false=>rw[a] at e;exact⟨(fun K=>by simp_all),e⟩
 have L:aN E.bR ⟨d.f,fun b=>d.au b∨b=B.b⟩ s (.put nm none r):=by
  refine⟨fun b a=>?_,l.bX,fun k b e=>?_,fun k k' F o2 q B2 e e' f Z a=>l.inj _ _ _ _ q B2 (i _ _ e).2 (i _ _ e').2 f Z a,fun g cs e=>p (l.bR g cs e)⟩
  . rcases a with a | rfl
    . exact l.bH b a
    . exact l.bX _ _ J
  . obtain ⟨M, m⟩ := i k b e
    obtain⟨q,S,c2,c3⟩:=l.obj k b m;refine⟨q,S,fun C=>?_,c3.mono rfl p (fun b a=>⟨z.au b a,rfl⟩)⟩
    rcases C with C|C
    . grind
    . exact M (l.inj _ _ _ _ q B m D S J C)
 have hv:∀v,Rel d s x v->Rel ⟨d.f,fun b=>d.au b∨b=B.b⟩ s y v:=by
  intro v O;rcases G with rfl|T
  . grind
  . refine (kR (l.only D) (I := fun b => d.au b ∨ b = B.b) (fun b a => .inl a) (fun b a => ?_) 20 O T).mono ⟨fun _ _ e => (by cases e), fun _ a => a⟩ (fun _ _ => rfl)
    obtain⟨k,F,q,m,K,rfl⟩:=a;rw[Tr.get] at m;cases b:beq k nm with
    | true =>
      have:=eq_of_beq_eq_true b
      grind
    | false=>rw[b] at m;cases m
 refine⟨⟨d.f,fun b=>d.au b∨b=B.b⟩,.put nm none r,Y,.ret y,⟨j.f,fun b a => .inl (j.au b a),j.os,j.tape,j.output,j.size,j.other,fun b a=>?_,fun b a=>?_⟩,L,k3,k4,?_,rfl,rfl,rfl⟩
 . rcases a with a | rfl
   . exact j.eG b a
   . exact .inr (j.own _ t)
 . obtain ⟨k, F, q, m, K, rfl⟩ := a
   exact j.own _ ⟨k,F,q,(i _ _ m).2,K,rfl⟩
 . cases e<;>first|exact Q.elim|exact hv _ Q
theorem DC.one {g:FuncId}{args:List AV}{H:ai}{nx:Nat}{R:AE->ai->Nat->Prop}(h:DC P E g args H nx R):∃c H' n,DC P E g args H nx (fun a h m=>a=c∧h=H'∧m=n)∧R c H' n:=by
 obtain⟨c,H',b,e,d⟩:=h;exact⟨c,H',b,⟨c,H',b,e,rfl,rfl,rfl⟩,d⟩
end Go.Ago
end
section
namespace Go.Ago
open List Nat
variable {P:Program} {E:Env} {rr:Bool}
theorem dt.trans {m:Nat}{S S' b:St}(e:dt P E m S S')(d:dt P E m S' b):dt P E m S b:=by
 intro c a w h;obtain⟨n,i,j,k,l,f⟩:=e c a w h;obtain⟨o,p,q,r,s,g⟩:=d _ a w f
 grind
inductive iR (S:St):St->Prop
 | r:iR S S
 | z (nm:Nat) (o:an) (sl:List (Nat×AV)) (hl:List (Nat×an)) (ho:S.heap.get nm=some o) (h1:uu nm o S sl) (h2:ur nm o S hl):iR S ⟨gF sl,S.bF,gS hl,0⟩
theorem iR.wk {m nx:Nat}{S Z:St}(h:iR S Z):dt P E m (S.at_ nx) (Z.at_ nx):=by
 cases h with
 | r=>exact fun c a w h=>⟨c,fun _ _=>rfl,fun _ h=>h,fun _ h => .inl h,fun _ h=>h,h⟩
 | z i o j l d g f=>exact dt.freeze _ o d rfl rfl (fun t y e=>Bz g t y (oK e)) (fun k b e=>Bw f k b (nB e))
theorem DW.Ce (D:bW P E)(j:P.follows .mixedOrders=true){α:Type}(k u:List Nat)(p:Nat)(a:α->List (Nat×AV))(q:α->List (Nat×an))(b:List (Nat×lX))(v:α->Nat)(A:α)
 {d:Code}{K:AX->Nat->St->Prop}{nx:Nat}{S:St}
 (h:lG S.heap u fun g=>kL S k fun l=>(iI (a A) fun m=>en m l fun i=>en (q A) g fun c=>mX nx (nx+p) b S i c) ∧
   ∀ x, iI (a x) fun m => en m l fun i => mm i fun t => en (q x) g fun c => oJ c fun B => fI P E rr d (fun e f S'=>match e with
    | .normal=>∃n Z,iR S' Z∧(iI (a n) fun m=>en m l fun i=>en (q n) g fun c=>mX nx (nx+p) b Z i c)∧S'.bF=S.bF∧v n<v x
    | e=>K e f S') (nx+p) ⟨t,S.bF,B,0⟩):DW P E rr nx (.loop d) K S:=by
 obtain⟨g,h⟩:=nt h;obtain⟨l,F,h⟩:=ql h;have w:nx≤nx+p:=le_add_right _ _;refine DW.loop (fun x=>⟨gF (a x++l),S.bF,gS (q x++g),0⟩) _ v _ w (oh w (eE (eE (jc F)))) fun x=>?_
 have:=qv (eE (nC (eE (jc (h x)))));refine(DW.gp D j _ this).mono fun e f S' y=>?_
 cases e with
 | normal =>
   obtain⟨n,Z,z,G,I,H⟩:=y;refine⟨n,?_,H⟩;have s:Z.bF=S.bF:=by
    cases z<;>omega
   have:=oh (P:=P) (E:=E) (nx:=f) w (eE (eE (jc G)));rw[s] at *;exact z.wk.trans this
 | _=>exact y
end Go.Ago
end
namespace Go.Ago
open List Nat
def Told (x y:AV):Prop:=∀(c:Ctx) (w:World) (v:Value),Rel c w x v->Rel c w y v
theorem DP.told {P:Program}{E:Env}{g:FuncId}{args:List AV}{Q f:AE->Prop}(h:DP P E g args Q)(i:∀a,Q a->∃x y,a = .ret x∧Told x y∧f (.ret y)):DP P E g args f:=by
 obtain⟨a,d,j⟩:=h;obtain⟨x,y,rfl,k,m⟩:=i _ j;refine⟨.ret y,⟨d.1,fun c w t n o p=>(d.2 c w _ n o p).mono ?_⟩,m⟩
 rintro e u ⟨l,a,r,q,s,b,rfl⟩
 refine⟨l,.ret y,r,q,s,?_,rfl⟩;cases e<;>first|exact b.elim|exact k _ _ _ b
theorem Told.r {x:AV}:Told x x:=fun _ _ _ h=>h
theorem Told.nil {sz:Nat}:Told .ah (.ak sz []):=fun _ _ _ h=>fX.n.rel h
theorem IQ {R:AV->AV->Prop}:∀{xs ys:List AV} {j:Nat} {y:AV},gm R xs ys->ys[j]? = some y->∃x,xs[j]? = some x∧R x y
 | x :: xs, y :: ys, 0, z, h, e => by
   simp at e;subst e;exact⟨x,rfl,h.1⟩
 | x :: xs, y :: ys, j + 1, z, h, e => by
   simp_all
   exact IQ h.2 e
 | [],[],_,_,_,e=>by grind
 | [],_::_,_,_,h,_=>h.elim
 | _::_,[],_,_,h,_=>h.elim
theorem IS {R:AV->AV->Prop}:∀{xs ys:List AV},gm R xs ys->ys.length=xs.length
 | [],[],_=>rfl
 | x::xs,y::ys,h=>by simp[IS h.2]
 | [],_::_,h=>h.elim
 | _::_,[],h=>h.elim
def mi (R:AV->AV->Prop):List (List AV)->List (List AV)->Prop
 | [],[]=>True
 | x::b,y::c=>gm R x y∧mi R b c
 | _,_=>False
theorem IN {R:AV->AV->Prop}:∀{xs ys:List (List AV)},mi R xs ys->ys.length=xs.length
 | [],[],_=>rfl
 | x::xs,y::ys,h=>by simp[IN h.2]
 | [],_::_,h=>h.elim
 | _::_,[],h=>h.elim
theorem Cv {R:AV->AV->Prop}:∀{xs ys:List (List AV)} {j:Nat} {y:List AV},mi R xs ys->ys[j]? = some y->∃x,xs[j]? = some x∧gm R x y
 | x :: xs, y :: ys, 0, z, h, e => by
   simp at e;subst e;exact⟨x,rfl,h.1⟩
 | x :: xs, y :: ys, j + 1, z, h, e => by
   simp_all
   exact Cv h.2 e
 | [],[],_,_,_,e=>by grind
 | [],_::_,_,_,h,_=>h.elim
 | _::_,[],_,_,h,_=>h.elim
theorem Told.rows {s:Nat}{es g:List (List AV)}(h:mi Told es g):Told (.ak s es) (.ak s g):=by
 intro c w v u;have d:=IN h;cases u with
 | ak p E A F q r =>
   rw[<-d];refine .ak p aa (fun G=>A aa) (fun i e f=>?_) (fun i j a b=>q i j aa b) (fun i j e x f y=>?_)
   . obtain ⟨n, m, k⟩ := Cv h f
     rw[IS k]
     grind
   . obtain ⟨n, m, k⟩ := Cv h f
     obtain⟨D,z,B⟩:=IQ k y;exact B _ _ _ (r i j n D m z)
 | fk =>
   cases g with
   | nil=>exact .fk s
   | cons _ _=>grind
theorem Told.ao {xs ys:List AV}(h:gm Told xs ys):Told (.ao xs) (.ao ys):=by
 intro c w v e;cases e with
 | ao g e =>
   have:=qs (fun x y v a b=>a c w v b) h ⟨g,e⟩
   exact .ao this.1 this.2
theorem Told.agg {xs ys:List AV}(h:gm Told xs ys):Told (.agg xs) (.agg ys):=by
 intro c w v e;cases e with
 | agg g e =>
   have:=qs (fun x y v a b=>a c w v b) h ⟨g,e⟩
   exact .agg this.1 this.2
end Go.Ago
section
namespace Go.Ago
open List Nat
def pH (a b:an):Prop:=a=b∨∃g f c,a = .arr g f∧b = .arr g c∧c.length=f.length∧∀(i:Nat) e d,f[i]? = some e->c[i]? = some d->d.length=e.length∧∀(j:Nat) x y,e[j]? = some x->d[j]? = some y->Told x y
theorem pH.rel {c:Ctx}{w:World}{B:fp}{a b:an}(h:pH a b)(k:fH c w B a):fH c w B b:=by
 rcases h with rfl|⟨G,d,z,rfl,rfl,F,C⟩
 . exact k
 . obtain ⟨g, t, o, p, q, H, s⟩ := k
   refine⟨g,t,o,p,q,by grind,fun i u x=>?_⟩
   have e:i<d.length:=by grind
   obtain⟨l,r⟩:=C i d[i] u (getElem?_eq_getElem e) x;obtain⟨E,A⟩:=s i d[i] (getElem?_eq_getElem e);refine⟨l.trans E,fun j y m=>?_⟩
   have f:j<d[i].length:=by rw[<-l];exact(List.getElem?_eq_some_iff.1 m).1
   obtain⟨v,D,n⟩:=A j d[i][j] (getElem?_eq_getElem f);exact⟨v,D,r j _ y (getElem?_eq_getElem f) m c w v n⟩
def y6 (S:St):List (Nat×AV)->Prop
 | []=>True
 | (t,y)::l=>(∃x,S.bo.get t=some x∧Told x y)∧y6 S l
def y5 (S:St):List (Nat×an)->Prop
 | []=>True
 | (k,b)::l=>(∃a,S.heap.get k=some a∧pH a b)∧y5 S l
theorem DU {S:St}:∀{l:List (Nat×AV)},y6 S l->∀t y,(t,y)∈l->∃x,S.bo.get t=some x∧Told x y
 | [],_,_,_,h=>by cases h
 | (c, d) :: l, b, t, y, h => by
   rcases mem_cons.1 h with h|h
   . cases h;exact b.1
   exact DU b.2 t y h
theorem DT {S:St}:∀{l:List (Nat×an)},y5 S l->∀k b,(k,b)∈l->∃a,S.heap.get k=some a∧pH a b
 | [],_,_,_,h=>by cases h
 | (e, f) :: l, d, t, y, h => by
   rcases mem_cons.1 h with h|h
   . cases h;exact d.1
   exact DT d.2 t y h
section
variable {P:Program} {E:Env} {rr:Bool}
theorem dt.told {m:Nat}{S S':St}(l:S'.bF=S.bF)(I:S'.next=S.next)(u:∀t y,S'.bo.get t=some y->∃x,S.bo.get t=some x∧Told x y)(i:∀k b,S'.heap.get k=some b->∃a,S.heap.get k=some a∧pH a b):dt P E m S S':=by
 intro c a w h;refine⟨c,fun _ _=>rfl,fun _ h=>h,fun _ h => .inl h,?_,⟨h.size.trans l.symm,fun t y e=>?_,h.defers,⟨h.bu.bH,h.bu.bX,fun k b e=>?_,fun k J o K B H e z f n p=>?_,h.bu.bR⟩,fun k L=>h.fresh k aa⟩⟩
 . rintro b ⟨k, o, B, q, r, rfl⟩
   obtain⟨j,d,_⟩:=i k o q;exact⟨k,j,B,d,r,rfl⟩
 . obtain ⟨x, d, g⟩ := u t y e
   obtain⟨v,A,s⟩:=h.bo t x d;exact⟨v,A,g c w v s⟩
 . obtain ⟨j, d, g⟩ := i k b e
   obtain⟨B,D,C,F⟩:=h.bu.obj k _ d;exact⟨B,D,C,g.rel F⟩
 obtain⟨j,d,_⟩:=i k o e;obtain⟨G,g,_⟩:=i _ _ z;exact h.bu.inj k _ _ _ B _ d g f n p
theorem DW.told (c:List (Nat×AV))(a:List (Nat×an)){code:Code}{K:AX->Nat->St->Prop}{nx:Nat}{S:St}(f:y6 S c)(g:y5 S a)
 (h:DW P E rr nx code K ⟨gF c,S.bF,gS a,0⟩):DW P E rr nx code K S:=
 DW.wk (S':=⟨gF _,S.bF,gS _,0⟩) (dt.told rfl rfl (fun t y e=>DU f t y (oK e)) (fun k b e=>DT g k b (nB e))) h
end
end Go.Ago
end
section
namespace Go.Ago
open List Nat
variable {P:Program} {E:Env} {rr:Bool}
structure lh (P:Program)(E:Env)(S Z:St):Prop where
 wk:∀m nx,dt P E m (S.at_ nx) (Z.at_ nx)
 bF:Z.bF=S.bF
theorem lh.r {S:St}:lh P E S S:=⟨fun _ _=>iR.wk .r,rfl⟩
theorem lh.z {S:St}(nm:Nat)(o:an)(b:List (Nat×AV))(a:List (Nat×an))(d:S.heap.get nm=some o)(e:uu nm o S b)(c:ur nm o S a):lh P E S ⟨gF b,S.bF,gS a,0⟩:=⟨fun _ _=>iR.wk (.z _ o _ _ d e c),rfl⟩
theorem lh.t {S:St}(c:List (Nat×AV))(a:List (Nat×an))(d:y6 S c)(f:y5 S a):lh P E S ⟨gF c,S.bF,gS a,0⟩:=
 ⟨fun _ g=>dt.told rfl rfl (fun t y e=>DU d t y (oK e)) (fun k b e=>DT f k b (nB e)),rfl⟩
theorem DW.U1 (B:bW P E)(k:P.follows .mixedOrders=true){α:Type}(l u:List Nat)(r:Nat)(a:α->List (Nat×AV))(p:α->List (Nat×an))(b:List (Nat×lX))(s:α->Nat)(z:α)
 {d:Code}{K:AX->Nat->St->Prop}{nx:Nat}{S:St}
 (h:lG S.heap u fun g=>kL S l fun i=>(iI (a z) fun n=>en n i fun j=>en (p z) g fun c=>mX nx (nx+r) b S j c) ∧
   ∀ x, iI (a x) fun n => en n i fun j => mm j fun v => en (p x) g fun c => oJ c fun C => fI P E rr d (fun e f S'=>match e with
    | .normal=>∃m Z,lh P E S' Z∧(iI (a m) fun n=>en n i fun j=>en (p m) g fun c=>mX nx (nx+r) b Z j c)∧S'.bF=S.bF∧s m<s x
    | e=>K e f S') (nx+r) ⟨v,S.bF,C,0⟩):DW P E rr nx (.loop d) K S:=by
 obtain⟨g,h⟩:=nt h;obtain⟨i,D,h⟩:=ql h;have t:nx≤nx+r:=le_add_right _ _;refine DW.loop (fun x=>⟨gF (a x++i),S.bF,gS (p x++g),0⟩) _ s _ t (oh t (eE (eE (jc D)))) fun x=>?_
 have:=qv (eE (nC (eE (jc (h x)))));refine(DW.gp B k _ this).mono fun e f S' w=>?_
 cases e with
 | normal =>
   obtain⟨m,Z,y,G,H,A⟩:=w;refine⟨m,?_,A⟩;have:=oh (P:=P) (E:=E) (nx:=f) t (eE (eE (jc G)));rw[y.bF,H] at *;exact(y.wk _ _).trans this
 | _=>exact w
end Go.Ago
end
section
namespace Go.Ago
open List Nat
variable {P:Program} {E:Env} {rr:Bool}
def fD (l:List (Int×AV))(k:Int):List (Int×AV):=l.filter fun p=>!decide (p.1=k)
theorem nw {l:List (Int×AV)}{k j:Int}{x:AV}:(j,x)∈fD l k↔(j,x)∈l∧j≠k:=by simp[fD]
theorem J0 {l:List (Int×AV)}{k:Int}(h:cu l):cu (fD l k):=Pairwise.sublist (filter_sublist.map _) h
theorem UF {l:List (Int×AV)}{k:Int}{x:AV}(h:(k,x)∈l):(fD l k).length<l.length:=
 length_filter_lt_length_iff_exists.2 ⟨(k,x),h,ag⟩
section
variable {G:eZ} {c:Ctx} {w:World} {H:ai}
theorem VJ (u:aN G c w H){z:Nat}{O:Option (Int×AV)}{l:List (Int×AV)}{B:fp}(hf:c.f z=some B)(I:H.get z=some (.cm O l))(S:z+1<2 ^ 24)(ty:TypeId) :
 B.s = 0 ∧ ((l=[]∧(Instr.next (.pointer (some ⟨B.b,0,none⟩)) false ty).run P w = .ok (.tuple #[.bool false]) w) ∨
 ∃k x v w',(k,x)∈l∧(Instr.next (.pointer (some ⟨B.b,0,none⟩)) false ty).run P w = .ok (.tuple #[.bool true,.int .i64 k,v]) w' ∧
  Ext c w H c w' (H.set 24 z (some (.cm (some (k,x)) (fD l k))))∧aN G c w' (H.set 24 z (some (.cm (some (k,x)) (fD l k))))∧Rel c w' x v):=by
 obtain⟨B',K,hi,⟨s0,z0⟩,m,d,a,seen,a1,T,a3,X,a5,⟨f,a6,a7,a8⟩,_⟩:=u.obj z _ I;rw[hf] at K;cases K;refine⟨s0,?_⟩;have i:(leftOf d seen).toList=d.toList.filter fun e=>!seen.contains e.born:=by unfold leftOf;simp
 rcases run_next_at (P:=P) w ty B.b m a a seen d a a1 a3 X.lt (Nat.le_refl _) with⟨h1,h2⟩|⟨e,C,L,Q,J⟩
 . refine .inl ⟨?_, h2⟩
   have:(leftOf d seen).toList=[]:=eq_nil_of_length_eq_zero aa;rw[i] at this;refine eq_nil_iff_forall_not_mem.2 fun p R=>?_
   grind
 . rw [i] at C
   obtain⟨k,x,o,rfl⟩:=a7 e C;have D:=(a6 k x o).2;have F:f k∈d.toList:=(mem_filter.1 C).1;have r:aN G c L H∧Ext c w H c L H:=by
    rcases Q with rfl|rfl
    . exact⟨u,Ext.refl c L H⟩
    . exact⟨u.drew,Ext.yg c w H⟩
   obtain⟨r,g⟩:=r;obtain ⟨e1, e2⟩ := r.bP I hf S (.mapIter (some m) a (seen.push (f k).born) a) (.cm (some (k, x)) (fD l k)) (fun w' hh hrel n=>by
    have U:w'.heap[m]? = some (.map d a):=(n m T).trans ((g.au u m T).trans a3);have V:∀y v,Rel c.bare w y v->Rel c.bare w' y v:=fun y v h=>(h.mono (c':=c.bare) (w':=L) (.refl _) fun b N=>g.au u b N).mono (.refl _) fun b N=>n b N
    refine⟨⟨s0,z0⟩,m,d,a,seen.push (f k).born,hh,T,U,X,J0 a5,⟨f,fun j y A=>?_,fun e C=>?_,fun j y A=>V _ _ (a8 j y (nw.1 A).1)⟩,fun j y A=>?_⟩
    . obtain ⟨Y, g2⟩ := nw.1 A
      obtain⟨W,q2⟩:=a6 j y Y;refine⟨mem_filter.2 ⟨(mem_filter.1 W).1,?_⟩,q2⟩;have q3:=(mem_filter.1 W).2;simp only[Array.contains_push,Bool.not_or,Bool.and_eq_true];refine⟨q3,?_⟩;simp only[Bool.not_eq_true',beq_eq_false_iff_ne,ne_eq];intro hborn
      
      have Z:f j=f k:=by
       obtain⟨p,R⟩:=mem_iff_getElem?.1 (mem_filter.1 W).1;obtain⟨q,hq⟩:=mem_iff_getElem?.1 F;have hpl:p<(d.toList.map (·.born)).length:=by rw[length_map];exact(List.getElem?_eq_some_iff.1 R).1
       have M:p=q:=(getElem?_inj hpl X.nd).1 aY;subst M;rw[R] at hq
       injection hq
      grind
    . obtain ⟨Y, g2⟩ := mem_filter.1 C
      simp only[Array.contains_push,Bool.not_or,Bool.and_eq_true,Bool.not_eq_true',beq_eq_false_iff_ne,ne_eq] at g2;obtain⟨j,y,A,rfl⟩:=a7 e (mem_filter.2 ⟨Y,by grind⟩)
      refine⟨j,y,nw.2 ⟨A,?_⟩,rfl⟩
      grind
    grind)
   refine .inr ⟨k,x,(f k).val,_,o,?_,g.trans e1,e2,?_⟩
   . rw[J,D];rfl
   . exact(g.trans e1).rel u (a8 k x o).oL
end
theorem SW.VH (hE:bW P E){id:Nat}{ops:Array Oper}{o1 i:Oper}{t a b:Tmp}(L:ops=#[o1,i])(N:o1.op = .next (.tmp t) false)(g1:o1.guard=none)(J:o1.dst=some a)(U:i.op = .extract (.tmp a) 0)(g2:i.guard=none)(d2:i.dst=some b)
 {S:St}{K:AX->St->Prop}{F:Nat}{cur:Option (Int×AV)}{l:List (Int×AV)}(ha:cv S (some a)=true)(hb:cv S (some b)=true)(hev:S.bo.get t=some (.ptr F 0 0))(Z:S.heap.get F=some (.cm cur l))(h24:ble (F+2) 16777216=true)
 (k0:l=[]->K .normal ⟨.put b (some (.bool false)) (.put a (some (.ao [.bool false])) S.bo),S.bF,S.heap,S.next+2⟩)
 (k1:∀k x,(k,x)∈l->K .normal ⟨.put b (some (.bool true)) (.put a (some (.ao [.bool true,.int .i64 k,x])) S.bo),S.bF,.put F (some (.cm (some (k,x)) (fD l k))) S.heap,S.next+2⟩):SW P E rr (.region id ops false) K S:=by
 intro r hr m hm c j w y;refine wpIn_region ?_;subst L;have M:F+1<2 ^ 24:=by have:=le_of_ble_eq_true h24;omega
 have hsz:(#[o1,i]:Array Oper).size=2:=rfl;have o:c_ P E c { S with next:=S.next+2 } j w:=⟨y.size,y.bo,y.defers,y.bu,fun k hk=>y.fresh k aY⟩
 have q:∀k,S.next≤k->k<S.next+2->c.f k=none:=fun k N _=>y.fresh k N
 show wpOpsIn (FR r) 0 P #[o1,i] (QS P E m c j w S K) (List.range 2) j w;rw[show List.range 2=[0,1] from rfl]
 simp only[wpOpsIn];rw[show(#[o1,i]:Array Oper)[0]? = some o1 from rfl]
 have G:Region.wanted o1 (yielded #[o1,i] j.tmps)=true:=by simp[Region.wanted,g1]
 dsimp only;rw[if_pos G]
 
 have C:∀(X:Ctx) (g:St) (W:Act) (p:World) (O:Bool) (vs:List AV),Mid P E m c j w S (S.next+1) (S.next+2) X g W p->g.bo.get a=some (.ao (.bool O::vs))->cv g (some b)=true->
  K .normal ⟨.put b (some (.bool O)) g.bo,g.bF,g.heap,g.next⟩->wpOpsIn (FR r) 0 P #[o1,i] (QS P E m c j w S K) [1] W p:=by
  intro X g W p O vs Q Y hdb hk;have := Ad (r := r) (m := m) (c0 := c) (a0 := j) (w0 := w) (S0 := S) (K := K) hE (ops := #[o1, i]) [i] 1 S.next X g W p rfl Q (by
   show gate [o1,i] g i.guard _ _;rw[g2];show ln P E (S.next+1) i g _ K;refine⟨by grind,?_⟩
   rw[U];show(yD (g.ev E (.tmp a)) 0).holds g.heap _ _;rw[show g.ev E (.tmp a) = .ao (.bool O::vs) by show(match g.bo.get a with|some x=>x|none => .any)=_;rw[Y]]
   show K .normal (g.put i.dst (.bool O) g.heap g.next);rw[d2];exact hk)
  exact this
 have n:∀H p,(Instr.next (j.eval (.tmp t)) false o1.type).run P w = .ok H p->(execOp j.eval o1).run P w = .ok (.value H) p:=by
  intro H p h;unfold execOp;rw[N];simp only[Sem.run_bind,h,Result.andThen_ok,Sem.run_pure]
 have hp:=y.ev (.tmp t);rw[show S.ev E (.tmp t) = .ptr F 0 0 by show(match S.bo.get t with|some x=>x|none => .any)=_;rw[hev]] at hp
 generalize hv:j.eval (.tmp t)=pv at hp n
 cases hp with
 | @ptr _ _ _ _ _ B hf =>
   obtain⟨s0,I⟩:=VJ (P:=P) y.bu hf Z M o1.type;have hpp:(⟨B.b,B.s+(0 * B.sz+0),none⟩:Addr)=⟨B.b,0,none⟩:=by rw[s0];simp
   rw[hpp] at n;have R:∀c,o1.op≠.defer c:=fun c e=>by grind
   rcases I with⟨rfl,d⟩|⟨k,x,v,p,hkx,d,u,hw',T⟩
   . have d := n _ _ d
     refine nT R (fun row V w'' e=>by grind) ?_
     unfold Oper.wp;rw[d];have z:c_ P E c ({ S with next:=S.next+2 }.put o1.dst (.ao [.bool false]) S.heap (S.next+2)) (j.put o1.dst (.tuple #[.bool false])) w:=
      o.put o.defers (fun h=>h) o.bu o.fresh (by rw[J];exact ha) (Rel.ao (vs:=[.bool false]) rfl (aQ.cons (.bool false) .nil).2)
     refine C c ({ S with next:=S.next+2 }.put o1.dst (.ao [.bool false]) S.heap (S.next+2)) _ w false [] ⟨(ek.refl m c j w S.heap).jg (ExtM.refl ..) (put_defers ..),le_add_right _ _,Nat.le_refl _,aa,z,fun k N U=>q k aa U⟩ ?_ hb ?_
     . rw[J];show(Tr.put a (some _) S.bo).get a=_;rw[Tr.get,show beq a a=true from beq_refl a];rfl
     . have:=k0 rfl;rw[J];exact this
   . have d := n _ _ d
     refine nT R (fun row V w'' e=>by grind) ?_
     unfold Oper.wp;rw[d];have hx:∀{x v},Rel c w x v->Rel c p x v:=fun hr=>u.rel y.bu hr
     have z:c_ P E c ({ S with next:=S.next+2 }.put o1.dst (.ao [.bool true,.int .i64 k,x]) (S.heap.set 24 F (some (.cm (some (k,x)) (fD l k)))) (S.next+2)) (j.put o1.dst (.tuple #[.bool true,.int .i64 k,v])) p:=
      o.put (u.defs y.bu y.defers) hx hw' o.fresh (by rw[J];exact ha) (Rel.ao (vs:=[.bool true,.int .i64 k,v]) rfl (aQ.cons (.bool true) (.cons (.int .i64 k) (.cons T .nil))).2)
     refine C c ({ S with next:=S.next+2 }.put o1.dst (.ao [.bool true,.int .i64 k,x]) (S.heap.set 24 F (some (.cm (some (k,x)) (fD l k)))) (S.next+2)) _ p true [.int .i64 k,x] ⟨(ek.refl m c j w S.heap).jg (u.toM fun _ _=>rfl) (put_defers ..),le_add_right _ _,Nat.le_refl _,aa,z,fun k N U=>q k aa U⟩ ?_ hb ?_
     . rw[J];show(Tr.put a (some _) S.bo).get a=_;rw[Tr.get,show beq a a=true from beq_refl a];rfl
     . have:=k1 k x hkx;rw[J];exact this
theorem dt.RS {m nx:Nat}{S:St}{g:Nat}{p:Option (Int×AV)}{l:List (Int×AV)}(s:S.heap.get g=some (.cm p l)):dt P E m (S.at_ nx) ((⟨S.bo,S.bF,.put g (some (.cm none l)) S.heap,0⟩:St).at_ nx):=by
 intro c a w h;have j:∀k o,(Tr.put g (some (.cm none l)) S.heap:ai).get k=some o->(k=g∧o = .cm none l)∨(k≠g∧S.heap.get k=some o):=by
  intro k o e;rw[Tr.get] at e;cases F:beq k g with
  | true=>simp_all
  | false=>rw[F] at e;exact .inr ⟨(fun v=>by simp_all),e⟩
 have d:∀k o,(Tr.put g (some (.cm none l)) S.heap:ai).get k=some o->∃n,S.heap.get k=some n:=fun k o e=>by
  grind
 refine⟨c,fun _ _=>rfl,fun _ h=>h,fun _ h => .inl h,?_,h.size,h.bo,h.defers,⟨h.bu.bH,h.bu.bX,fun k o e=>?_,fun k u o n B D e q=>?_,h.bu.bR⟩,h.fresh⟩
 . rintro b ⟨k, o, B, e, f, rfl⟩
   obtain⟨n,q⟩:=d k o e;exact⟨k,n,B,q,f,rfl⟩
 . rcases j k o e with ⟨rfl, rfl⟩ | ⟨_, e⟩
   . obtain ⟨B, z, A, C, r, t, i, seen, G, H, I, J, K, L, _⟩ := h.bu.obj k _ s
     exact⟨B,z,A,C,r,t,i,seen,G,H,I,J,K,L,fun k x e=>by cases e⟩
   . exact h.bu.obj k o e
 . obtain ⟨M, N⟩ := d k o e
   obtain⟨y,v⟩:=d u n q;exact h.bu.inj k u M y B D N v
theorem dt.ZH {m:Nat}{S S' b:St}(e:dt P E m S S')(d:dt P E m S' b):dt P E m S b:=by
 intro c a w h;obtain⟨n,i,j,k,l,f⟩:=e c a w h;obtain⟨o,p,q,r,s,g⟩:=d _ a w f
 grind
theorem DW.xu (F:bW P E){es:List (Int×AV)}(z:cu es)(L:List (Int×AV)->St)(f:Nat){id:Nat}{ops:Array Oper}{o1 r:Oper}{t a b:Tmp}(i:ops=#[o1,r])(H:o1.op = .next (.tmp t) false)(J:o1.guard=none)(N:o1.dst=some a)(X:r.op = .extract (.tmp a) 0)(g2:r.guard=none)(Z:r.dst=some b)
 {c:Code}{K:AX->Nat->St->Prop}{nx q:Nat}{S:St}(w:ble (q+2) 16777216=true)(O:nx≤f)(h0:dt P E nx (S.at_ nx) ((L es).at_ f))
 (W:∀l,(L l).bo.get t=some (.ptr q 0 0)∧(L l).heap.get q=some (.cm none l)∧cv (L l) (some a)=true∧cv (L l) (some b)=true)
 (g:DW P E rr (f+2) c (fun e d S'=>match e with | .normal=>False|e=>K e d S') ⟨.put b (some (.bool false)) (.put a (some (.ao [.bool false])) (L []).bo),(L []).bF,(L []).heap,0⟩)
 (u:∀l,cu l->(∀p∈l,p∈es)->∀k x,(k,x)∈l->DW P E rr (f+2) c (fun e d S'=>e = .normal∧dt P E nx (S'.at_ d) ((L (fD l k)).at_ f))
   ⟨.put b (some (.bool true)) (.put a (some (.ao [.bool true,.int .i64 k,x])) (L l).bo),(L l).bF,.put q (some (.cm (some (k,x)) (fD l k))) (L l).heap,0⟩) :
 DW P E rr nx (.loop (.seq (.region id ops false) c)) K S:=by
 obtain⟨G,y,I,v,hK⟩:=g;refine⟨G,y,I,?_,by grind⟩
 refine SW.xu (α:={ l:List _ // cu l∧∀p∈l,p∈es }) (fun x=>(L x.1).at_ f) (fun x=>x.1.length) ⟨es,z,fun _ h=>h⟩ h0 (fun x=>O) ?_
 rintro⟨l,m,j⟩
 obtain⟨Q,R,T,U⟩:=W l;refine SW.seq (SW.VH F i H J N X g2 Z T U Q R w (fun M=>?_) (fun k x n=>?_))
 . subst M
   refine SW.mono v fun e s C=>?_
   grind
 obtain⟨Y,V,S1,o,rfl,A⟩:=u l m j k x n;refine SW.mono o fun e s C=>?_
 obtain⟨rfl,rfl⟩:=C;exact⟨⟨fD l k,J0 m,fun p D=>j p ((mem_filter.1 D).1)⟩,A,UF n⟩
theorem DW.si (I:bW P E)(q:P.follows .mixedOrders=true)(es:List (Int×AV))(g t a b:Nat)(w G:List Nat)(z:Nat)(c:List (Int×AV)->List (Nat×AV))(v:List (Int×AV)->List (Nat×an))(i:List (Nat×lX))
 {id:Nat}{ops:Array Oper}{o1 A:Oper}{f:Code}{K:AX->Nat->St->Prop}{nx:Nat}{S:St}(H:cu es)(u:ops=#[o1,A])(Y:o1.op = .next (.tmp t) false)(g1:o1.guard=none)(W:o1.dst=some a)(Z:A.op = .extract (.tmp a) 0)(V:A.guard=none)(U:A.dst=some b)
 (D:ble (g+2) 16777216=true)(F:cv S (some a)=true)(B:cv S (some b)=true)
 (h:lG S.heap (g::G) fun s=>kL S w fun r=>(iI (c es) fun m=>en m r fun o=>en ((g,.cm none es)::v es) s fun d=>mX nx (nx+z) i S o d) ∧
   (∀l,iI (c l) fun m=>en m r fun o=>mm o fun j=>j.get t=some (.ptr g 0 0)) ∧
   (iI (c []) fun m=>en m r fun o=>mm o fun j=>en ((g,.cm none [])::v []) s fun d=>oJ d fun J=>fI P E rr f (fun e n S'=>match e with | .normal=>False|e=>K e n S') (nx+z+2)
     ⟨.put b (some (.bool false)) (.put a (some (.ao [.bool false])) j),S.bF,J,0⟩) ∧
   ∀l,cu l->(∀p∈l,p∈es)->∀k x,(k,x)∈l->iI (c l) fun m=>en m r fun o=>mm o fun j=>en ((g,.cm none l)::v l) s fun d=>oJ d fun J=>
    fI P E rr f (fun e n S'=>e = .normal∧S'.heap.get g=some (.cm (some (k,x)) (fD l k))∧S'.bF=S.bF ∧
     (iI (c (fD l k)) fun m=>en m r fun o=>en ((g,.cm none (fD l k))::v (fD l k)) s fun d=>mX nx (nx+z) i ⟨S'.bo,S'.bF,.put g (some (.cm none (fD l k))) S'.heap,0⟩ o d)) (nx+z+2)
    ⟨.put b (some (.bool true)) (.put a (some (.ao [.bool true,.int .i64 k,x])) j),S.bF,.put g (some (.cm (some (k,x)) (fD l k))) J,0⟩) :
 DW P E rr nx (.loop (.seq (.region id ops false) f)) K S:=by
 obtain⟨s,h⟩:=nt h;obtain⟨r,h0,C,y,N⟩:=ql h;have L:nx≤nx+z:=le_add_right _ _;refine DW.xu I H (fun l=>⟨gF (c l++r),S.bF,gS ((g,.cm none l)::v l++s),0⟩) _ u Y g1 W Z V U D L (oh L (eE (eE (jc h0)))) (fun l=>⟨?_,?_,F,B⟩) ?_ (fun l M O k x Q=>?_)
 . exact nC (eE (jc (C l)))
 . show (Tr.put g _ _).get g = _
   rw[Tr.get,beq_refl];rfl
 . exact DW.gp I q _ (qv (eE (nC (eE (jc y)))))
 have:=qv (eE (nC (eE (jc (N l M O k x Q)))));refine(DW.gp I q f this).mono fun e n S' he=>?_
 obtain⟨rfl,h3,h4,X⟩:=he;refine⟨rfl,(dt.RS h3).ZH ?_⟩;have:=oh (P:=P) (E:=E) (nx:=n) L (eE (eE (jc X)))
 grind
end Go.Ago
end
section
namespace Go.Ago
open Go.Proofs List Nat Tryz
attribute [local irreducible] bN bM aZ bK b_ wr bp bL comp DC DP DW DV
attribute [local irreducible] dJ ct aL cH dP dI ec dX cB dM dR bV bn bB eA fS lV
def bC (n:Nat):List Int:=(List.range n).map fun k:Nat=>(k:Int)
theorem CY (n:Nat):bC (n+1)=bC n++[(n:Int)]:=by simp[bC,range_succ]
theorem jU (n:Nat):(bC n).length=n:=by simp[bC]
theorem uN {n:Nat}{x:Int}:x∈bC n↔0≤x∧x<n:=by
 simp[bC];exact⟨fun ⟨k,b,a⟩=>aa,fun h=>⟨x.toNat,aa,aa⟩⟩
theorem Xa:([]:List Int)=bC 0:=rfl
attribute [local irreducible] bC
theorem V4 (n:Nat)(k:n≤100000):af 45 [i64 n] (fun i=>∃v,i = .ret v∧fX v (aU (bC n))):=by
 refine zw func45 ?_
 conv=>whnf
 refine DW.aO aC aD [2,5] [] 2000 (fun x:{x:Nat×List Int // x.2=bC x.1∧x.1≤n}=>[(6,i64 x.1.1),(3,fc 1000 1 (x.1.2.map ic))]) (fun x=>e_ 1000 1 (x.1.2.map ic)) [(1000,.slot 3)] (fun x=>n+1 - x.1.1) (⟨(0,[]),Xa,zero_le _⟩) ?_
 refine zl fun x=>?_
 rcases x with⟨⟨m,_|⟨y,b⟩⟩,a,c⟩
 . dsimp only at a c
   have i_len:=congrArg length a;simp only[length_nil,jU] at i_len;refine zg ?_
   repeat' ((first|refine zf ?_|(refine zp ?_ ?_<;>intro h))<;>refine zg ?_)
   . (refine⟨⟨(m+1,[(m:Int)]),(by rw[CY,<-a];rfl),aa⟩,Nl,rfl,bG⟩)
   . have e : n = m := aa
     exact⟨.ah,rfl,by rw[e,<-a];exact fX.n⟩
 . dsimp only at a c
   have i_len:=congrArg length a;simp only[length_cons,jU] at i_len;refine zg ?_
   repeat' ((first|refine zf ?_|(refine Rq.mk (di 8 100001 ag rfl rfl mF ab) ?_)|(refine zp ?_ ?_<;>intro h))<;>refine zg ?_)
   . (refine⟨⟨(m+1,y::(b++[(m:Int)])),(by rw[CY,<-a];rfl),aa⟩,Nl,rfl,bG⟩)
   . generalize d : snap _ 20 _ = j
     obtain rfl:=d.symm.trans (qQ (f:=ic) (fun _=>rfl) rfl)
     conv=>whnf
     have e:n=m:=aa;exact⟨aU (y::b),rfl,by rw[e,<-a];exact fX.r⟩
theorem IT (n:Nat)(b:n≤100000):af 45 [i64 n] (fun c=>c = .ret (aU (bC n))):=by
 refine(V4 n b).oI ?_
 rintro _ ⟨v,rfl,a⟩
 exact⟨_,_,rfl,.inl (.inl a),rfl⟩
def n3 (l:List Int)(r:Int)(n:Nat):Prop:=∀(k:Nat) (h:k<l.length),k<n->r≠l[k]
theorem n3.nil {l r}:n3 l r 0:=fun _ _ h=>absurd h (ag)
theorem n3.step {l:List Int}{r:Int}{n:Nat}(h:n3 l r n)(b:n<l.length)(c:¬r=l[n]):n3 l r (n+1):=fun k d e=>by
 rcases Nat.lt_or_ge k n with a|a
 . exact h k _ a
 grind
theorem n3.not {l:List Int}{r:Int}{n:Nat}(h:n3 l r n)(c:(l.length:Int)≤n):r∉l:=fun a=>by
 obtain⟨k,b,rfl⟩:=getElem_of_mem a;exact h k _ aa rfl
attribute [local irreducible] n3
def dc (a:List Int)(r:Int):Int:=if r<0 then r else a.getD r.toNat 0
def vC (a:List Int)(r:Int):Prop:=r<0∨r<a.length
def gG (i:Ins)(c:List Int):Ins:={ i with a:=dc c i.a,b:=dc c i.b,l:=⟨i.l.l.map (dc c),by rw[length_map];exact i.l.h⟩ }
theorem xW (a:List Int)(c:a.length<281474976710656)(r:Int)(h:vC a r):af 122 [i64 r,.bq [aU a]] (fun d=>d = .ret (i64 (dc a r))):=by
 refine zw func122 ?_;have h:r<0∨r<a.length:=h;refine zg ?_
 repeat' ((refine zp ?_ ?_<;>intro h)<;>refine zg ?_)
 . rw[dc,if_pos h]
 . rw[dc,if_neg aa,getD_at]
attribute [local irreducible] dc
def vB (i:Ins)(c:List Int):Prop:=vC c i.a∧vC c i.b∧∀r∈i.l.l,vC c r
theorem gE {ρ:Nat->Nat}{s:Nat}{l:List Int}{es:List (List AV)}(h:es=l.map ic):an.arr s es=an.cp ρ (.arr s (l.map ic)):=by
 simp[an.cp];congr 1
theorem mc {n s:Nat}{l:List Int}:an.lt n (.arr s (l.map ic)):=by show(List.all _ _)=true;simp[AV.l1,AV.la,AV.l0]
theorem qN {H:ai}{n k i len sz m:Nat}{α:Type}{l:List α}{f:α->List AV}(c:H.get k=some (.arr m (l.map f)))(d:∀a,(f a).flatMap (cC H n)=[]):cC H (n+1) (.az k i len sz)=[k]:=by
 have:(((l.map f).drop i).take len).flatMap (fun e=>e.flatMap (cC H n))=[]:=by
  rw[flatMap_eq_nil_iff]
  grind
 simp[cC,c,this]
theorem Dk {H:ai}{n:Nat}{x y:AV}{a:List Nat}(c:cC H n x=a)(b:cC H n y=[]):(([]++[x,y]++[]):List AV).flatMap (cC H n)=a:=by
 grind
theorem yL {H:ai}{n:Nat}{x y:AV}{a:List Nat}(c:cC H n x=[])(b:cC H n y=a):(([]++[x]++[y]):List AV).flatMap (cC H n)=a:=by
 grind
theorem yN {H:ai}{n k s:Nat}{v:AV}{rs:List Nat}(b:H.get k=some (.arr s [[v]]))(a:cC H n v=rs):cC H (n+1) (.ptr k 0 0)=k::rs:=by
 simp[cC]
 simp_all
theorem DV.p9 {P:Program}{E:Env}{nm:Nat}{g:FuncId}{a cap args args':List AV}{H:ai}{Q:AE->Prop}{R:AV->List (Nat×Option an)->List Nat->Prop}{rs:List Nat}(c:aM (snap H 20) (a++args++cap)=some args')(h:DP P E g args' Q)
 (f:(a++args++cap).flatMap (cC H 20)=rs)(e:∀b,Q b->∃v,b = .ret v∧v.flat=true∧R v [] rs):DV P E nm (.fn (.func g) a cap) args H R:=
 DV.flat c h fun b d=>by grind
abbrev qA (pl:List Int):an := .arr 1 (pl.map ic)
theorem WI (i:Ins)(c:List Int)(d:c.length<281474976710656)(r:i.l.l.length≤40)(p:vB i c):c9 88 [i.av,.az 0 0 c.length 1] (.put 0 (some (qA c)) .nil) 1 (fun s H' _=>H'.get 0=some (qA c)∧∃v,s = .ret (.agg ((gG i c).cells.set 25 v))∧(fX v (aU (i.l.l.map (dc c)))∨∃o,H'.get 1000=some o∧snap (.put 1000 (some o) .nil) 19 v=some (aU (i.l.l.map (dc c))))):=by
 refine zd func88 ?_;refine zg ?_
 repeat' ((first|(refine DV.p9 (rs:=[2,0]) (aJ rfl (aJ (qR (n:=19) rfl (aJ (gu (f:=ic) (l:=c) (n:=18) (fun _=>rfl) rfl rfl rfl) rfl)) rfl)) (xW c d i.a p.1) (yL rfl (yN rfl (qN (n:=18) (f:=ic) (l:=c) rfl (fun _=>rfl)))) ?_;rintro _ rfl;refine⟨_,rfl,rfl,?_⟩)|(refine DV.p9 (rs:=[2,0]) (aJ rfl (aJ (qR (n:=19) rfl (aJ (gu (f:=ic) (l:=c) (n:=18) (fun _=>rfl) rfl rfl rfl) rfl)) rfl)) (xW c d i.b p.2.1) (yL rfl (yN rfl (qN (n:=18) (f:=ic) (l:=c) rfl (fun _=>rfl)))) ?_;rintro _ rfl;refine⟨_,rfl,rfl,?_⟩))<;>refine zg ?_)
 refine DW.aO aC aD [4,5,6,23,24] [7] 2000 (fun x:{x:Nat×List Int // x.2=(i.l.l.take x.1).map (dc c)∧x.1≤i.l.l.length}=>[(25,i64 x.1.1)]) (fun x=>(7,.arr 29 [((gG i c).cells.set 25 (fc 1000 1 (x.1.2.map ic)))])::e_ 1000 1 (x.1.2.map ic)) [(1000,.cell 7 25)] (fun x=>i.l.l.length+1 - x.1.1) (⟨(0,[]),rfl,zero_le _⟩) ?_
 conv=>whnf
 refine⟨?_,fun x=>?_⟩
 . conv => whnf
   (repeat' first|exact True.intro|apply And.intro|rfl|exact gE aB|exact mc)
 rcases x with⟨⟨m,_|⟨y,k⟩⟩,g,j⟩
 . dsimp only at g j
   have i_len:=congrArg length g;simp only[length_nil,length_map,length_take] at i_len;refine zk ?_
   repeat' ((first|refine zf ?_|refine ay.mk _ (bI (l:=i.l.l) (i:=m) aa) ?_|(refine zp ?_ ?_<;>intro h)|(refine DV.p9 (rs:=[2,0]) (aJ rfl (aJ (qR (n:=19) rfl (aJ (gu (f:=ic) (l:=c) (n:=18) (fun _=>rfl) rfl rfl rfl) rfl)) rfl)) (xW c d (i.l.l[m]'aa) (p.2.2 _ (getElem_mem _))) (yL rfl (yN rfl (qN (n:=18) (f:=ic) (l:=c) rfl (fun _=>rfl)))) ?_;rintro _ rfl;refine⟨_,rfl,rfl,?_⟩))<;>refine zk ?_)
   . (refine⟨⟨(m+1,[dc c (i.l.l[m]'aa)]),(by rw[qW aa,<-g];rfl),aa⟩,(by(conv=>whnf);(repeat' first|exact True.intro|apply And.intro|rfl|exact congrArg (fun v=>an.arr 29 [((gG i c).cells.set 25 v)]) (dW aB aB ag aB)|exact gE aB|exact mc|exact cX (f:=ic) (fun _=>by rfl)|(refine cw ?_ ?_ ?_<;>(try dsimp only)<;>omega))),rfl,bG⟩)
   . have e : i.l.l = [] := eq_nil_of_length_eq_zero aa
     exact⟨rfl,.ah,rfl,.inl (by rw[e];exact fX.n)⟩
 . dsimp only at g j
   have i_len:=congrArg length g;simp only[length_cons,length_map,length_take] at i_len;refine zk ?_
   repeat' ((first|refine zf ?_|(refine Rq.mk (di 8 2000 ag rfl rfl mF ab) ?_)|refine ay.mk _ (bI (l:=i.l.l) (i:=m) aa) ?_|(refine zp ?_ ?_<;>intro h)|(refine DV.p9 (rs:=[2,0]) (aJ rfl (aJ (qR (n:=19) rfl (aJ (gu (f:=ic) (l:=c) (n:=18) (fun _=>rfl) rfl rfl rfl) rfl)) rfl)) (xW c d (i.l.l[m]'aa) (p.2.2 _ (getElem_mem _))) (yL rfl (yN rfl (qN (n:=18) (f:=ic) (l:=c) rfl (fun _=>rfl)))) ?_;rintro _ rfl;refine⟨_,rfl,rfl,?_⟩))<;>refine zk ?_)
   . (refine⟨⟨(m+1,y::(k++[dc c (i.l.l[m]'aa)])),(by rw[qW aa,<-g];rfl),aa⟩,(by(conv=>whnf);(repeat' first|exact True.intro|apply And.intro|rfl|exact congrArg (fun v=>an.arr 29 [((gG i c).cells.set 25 v)]) (dW aB aB ag aB)|exact gE aB|exact mc|exact eS aB (gl (f:=ic) (fun _=>by rfl) aB ag)|exact cX (f:=ic) (fun _=>by rfl)|(refine cw ?_ ?_ ?_<;>(try dsimp only)<;>omega))),rfl,bG⟩)
   . exact⟨rfl,_,rfl,.inr ⟨_,rfl,(gV (f:=ic) (n:=18) (fun _=>rfl) rfl).trans (by have e:y::k=i.l.l.map (dc c):=(by rw[g,take_of_length_le aa]);rw[<-e];rfl)⟩⟩
theorem WH (i:Ins)(a:List Int)(c:a.length<281474976710656)(b:i.l.l.length≤40)(k:vB i a):c9 88 [i.av,.az 0 0 a.length 1] (.put 0 (some (qA a)) .nil) 1 (fun e H' _=>e = .ret (gG i a).av∧H'.get 0=some (qA a)):=by
 obtain⟨e,H',j,h,f,v,rfl,d⟩:=(WI i a c b k).one;rcases d with d|⟨o,m,g⟩
 . refine h.oI ?_
   rintro _ _ _ ⟨rfl,rfl,rfl⟩
   exact⟨_,_,rfl,.inl (.inr ⟨_,_,rfl,rfl,Es (i:=gG i a) d⟩),rfl,f⟩
 . refine h.R9 ?_
   rintro _ _ _ ⟨rfl,rfl,rfl⟩
   exact⟨1000,o,_,(gG i a).av,rfl,m,.inr (nR (n:=19) (aJ rfl (aJ rfl (aJ rfl (aJ rfl (aJ rfl (aJ rfl (aJ rfl (aJ rfl (aJ rfl (aJ rfl (aJ rfl (aJ rfl (aJ rfl (aJ rfl (aJ rfl (aJ rfl (aJ rfl (aJ rfl (aJ rfl (aJ rfl (aJ rfl (aJ rfl (aJ rfl (aJ rfl (aJ rfl (aJ g rfl))))))))))))))))))))))))))),rfl,f⟩
theorem Jq {n:Nat}(i:Ins)(a:List Int)(e:a.length=n)(c:a.length<281474976710656)(b:i.l.l.length≤40)(f:vB i a):c9 88 [i.av,.az 0 0 n 1] (.put 0 (some (qA a)) .nil) 1 (fun d H' _=>d = .ret (gG i a).av∧H'.get 0=some (qA a)):=by
 subst e;exact WH i _ c b f
theorem xV {a:List Int}:(qA a).eF:=by show(List.all _ _)=true;simp[hY,l_,nf]
theorem HG (i:Ins):AE.still (.ret i.av):=Za rfl
end Go.Ago
end
