/-
  Part B08: lemmas, each with its own conditions.
-/
import Derived.LoopN
import Derived.RangeFuncOwn
import Derived.ScopeJumps
import Derived.Test.YthaolifcglpkdaaGreatDoorB07
set_option maxRecDepth 100000
set_option maxHeartbeats 0
set_option linter.all false
section
namespace Go.Ago
open List Nat
def AV.f3 (v:AV)(k:AV->Prop):Prop:=
 match v with
 | .ao b=>fL AV.f1 b fun a=>k (.ao a)
 | v=>v.f1 k
theorem AV.kJ {v:AV}{k:AV->Prop}(h:v.f3 k):k v:=by
 cases v<;>first|exact gp (fun _ _ h=>AV.gm h) h|exact AV.gm h
def qD (E:Env)(b:Func)(Q:AE->Prop):AX->St->Prop
 | .normal, S | .ret, S => match ig E b S with
   | some x => match snap S.heap 20 x with
     | some y=>y.f3 fun a=>Q (.ret a)
     | none=>False
   | none=>False
 | .aU v, S => match snap S.heap 20 v with
   | some y=>y.f3 fun a=>Q (.aU a)
   | none=>False
 | _,_=>False
theorem Kf {E:Env}{d:Func}{Q:AE->Prop}{e:AX}{S:St}(h:qD E d Q e S):ji E d Q e S:=by
 cases e with
 | normal =>
   simp only[qD] at h;simp only[ji];split at h
   . split at h
     . simp_all only;exact AV.kJ (k:=fun y=>Q (.ret y)) h
     grind
   grind
 | ret =>
   simp only[qD] at h;simp only[ji];split at h
   . split at h
     . simp_all only;exact AV.kJ (k:=fun y=>Q (.ret y)) h
     grind
   grind
 | aU v =>
   simp only[qD] at h;simp only[ji];split at h
   . simp_all only;exact AV.kJ (k:=fun y=>Q (.aU y)) h
   grind
 | exit i=>exact h
 | goto i=>exact h
section
variable {P:Program} {E:Env} {rr:Bool}
theorem DP.walk {f:FuncId}{a:Func}{code:Code}{args:List AV}{Q:AE->Prop}(c:bZ P E)(b:P.follows .mixedOrders=true)(k:P.funcs[f]? = some a)(i:a.body=some code)(j:a.name ≠ "runtime.NumGoroutine")
 (d:ble args.length a.ntmps=true)(l:blt a.ntmps 1000000=true)(h:fL AV.f1 args fun args'=>nk args' 0 .nil fun m=>fN a.ntmps fun n=>fO P E false code (fun e _ S=>qD E a Q e S) 0 ⟨m,n,.nil,0⟩):DP P E f args Q:=by
 have o:=zbb d;have p:=by simpa using l
 refine DP.nC c k i j aa ?_;rw[uJ d];exact(DW.gr c b _ (rN (sa (gp (fun _ _ h=>AV.gm h) h)))).mono fun e _ s g=>Kf g
def dq (P:Program)(E:Env)(m:Nat)(S S':St):Prop:=
 ∀c a w,c9 P E c S a w->∃d,(∀k,k<m->d.f k=c.f k)∧(∀b,c.aq b->d.aq b)∧(∀b,d.aq b->c.aq b∨Own c S.heap b)∧(∀b,Own d S'.heap b->Own c S.heap b)∧c9 P E d S' a w
theorem SW.xE {α:Type}(L:α->St)(A:α->Nat){o:Code}{K:AX->St->Prop}{S:St}(Q:α)(h0:dq P E S.next S (L Q))(R:∀x,S.next≤(L x).next)
 (h : ∀ x, SW P E rr o (fun e S'=>match e with
   | .normal=>∃B,dq P E S.next S' (L B)∧A B<A x
   | e=>K e S') (L x)):SW P E rr (.loop o) K S:=by
 intro r hr m X c a w W;have f:∀{s:Ctx} {C:St} {q:Act} {p:World} {x:α},ep m c a w S.heap s q p C.heap->c9 P E s C q p->dq P E S.next C (L x)->∃g,ep m c a w S.heap g q p (L x).heap∧c9 P E g (L x) q p:=by
  intro s C q p x J y H;obtain⟨g,G,I,Y,e4,e5⟩:=H s q p y;exact⟨g,J.jj ⟨fun k hk=>G k aa,I,rfl,rfl,rfl,zbm _,fun _ _ _=>rfl,fun b M=>(Y b M).imp id .inl,fun b M => .inl (e4 b M)⟩ rfl,e5⟩
 refine wpIn_loop_ghost (fun n O N=>∃x g,A x=n∧ep m c a w S.heap g O N (L x).heap∧c9 P E g (L x) O N) (A Q) ?_ ?_
 . obtain ⟨g, y, h2⟩ := f (ep.refl m c a w _) W h0
   grind
 . rintro n q p ⟨x, s, rfl, J, y⟩
   refine wpIn_mono (h x r hr m (zbu X (R x)) s q p y) ?_
   rintro e a2 w2 ⟨D,z,Z,g1,g2,u,j,t⟩
   have d:=J.trans g1;have l:=zbu (R x) g2;cases Z with
   | normal =>
     cases e<;>first|exact j.elim|skip
     obtain⟨B,k1,k2⟩:=t;obtain⟨g,G,I⟩:=f d u k1;exact⟨_,k2,B,g,rfl,G,I⟩
   | exit i=>cases e<;>first|exact j.elim|exact⟨D,z,_,d,l,u,j,t⟩
   | goto i=>cases e<;>first|exact j.elim|exact⟨D,z,_,d,l,u,j,t⟩
   | ret=>cases e<;>first|exact j.elim|exact⟨D,z,_,d,l,u,j,t⟩
   | aU v=>cases e<;>first|exact j.elim|exact⟨D,z,_,d,l,u,j,t⟩
theorem DW.loop {α:Type}(L:α->St)(d:Nat)(f:α->Nat){b:Code}{K:AX->Nat->St->Prop}{nx:Nat}{S:St}(r:α)(C:nx≤d)(h0:dq P E nx (S.at_ nx) ((L r).at_ d))
 (h : ∀ x, DW P E rr d b (fun e a S'=>match e with
   | .normal=>∃k,dq P E nx (S'.at_ a) ((L k).at_ d)∧f k<f x
   | e=>K e a S') (L x)):DW P E rr nx (.loop b) K S:=by
 
 have m : ∀ n x, f x = n->∃ g a S', K g a S' ∧ ∃ T : α->Prop, T x ∧ ∀ y, T y->SW P E rr b (fun e s=>match e with
  | .normal=>∃j,T j∧dq P E nx s ((L j).at_ d)∧f j<f y
  | e=>e=g∧s=S'.at_ a) ((L y).at_ d):=by
  intro n
  induction n using Nat.strongRecOn with
  | ind n B =>
    intro x t;obtain⟨g,a,S',D,l⟩:=h x;cases g with
    | normal =>
      obtain⟨k,k1,k2⟩:=l;obtain⟨p,q,F,G,T,g2,g3⟩:=B (f k) aa k rfl;refine⟨p,q,F,G,fun y=>y=x∨T y,.inl rfl,?_⟩
      rintro y (rfl|hy)
      . refine D.mono fun e s o => ?_
        grind
      . refine (g3 y hy).mono fun e s o => ?_
        grind
    | exit i=>exact⟨_,a,S',l,fun y=>y=x,rfl,by grind⟩
    | goto i=>exact⟨_,a,S',l,fun y=>y=x,rfl,by grind⟩
    | ret=>exact⟨_,a,S',l,fun y=>y=x,rfl,by grind⟩
    | aU v=>exact⟨_,a,S',l,fun y=>y=x,rfl,by grind⟩
 obtain⟨g,a,S',hK,T,hT,hS⟩:=m _ r rfl;refine⟨g,a,S',?_,hK⟩;refine SW.xE (α:={ x // T x }) (fun x=>(L x.1).at_ d) (fun x=>f x.1) ⟨r,hT⟩ h0 (fun x=>C) ?_
 rintro⟨x,t⟩
 refine(hS x t).mono fun e s o=>?_
 cases e with
 | normal =>
   obtain⟨j,e1,e2,A⟩:=o;exact⟨⟨j,e1⟩,e2,A⟩
 | _=>exact o
def tT (P:Program)(E:Env)(b:Bool)(a:Code)(K:AX->St->Prop):Nat->St->Prop
 | 0,_=>False
 | n + 1, S => SW P E b a (fun e c => match e with
   | .normal=>tT P E b a K n c
   | e=>K e c) S
theorem SW.rounds {b:Code}{K:AX->St->Prop}(n:Nat){S:St}(h:tT P E rr b K n S):SW P E rr (.loop b) K S:=by
 intro r y m L c a w J;refine wpIn_loop_rounds n ?_;have z:∀(n:Nat) (j:St) (t:Ctx) (l:Act) (p:World),ep m c a w S.heap t l p j.heap->S.next≤j.next->c9 P E t j l p->tT P E rr b K n j->
  Code.roundsIn (FR r) 0 P b (QS P E m c a w S K) n l p:=by
  intro n
  induction n with
  | zero=>intro j t l p _ _ _ h;exact h.elim
  | succ n O =>
    intro j t l p M C x h;refine wpIn_mono (h r y m (zbu L C) _ _ _ x) ?_
    rintro e U T ⟨s,q,N,R,I,k,g,o⟩
    have d:=M.trans R;have f:=zbu C I;cases N with
    | normal =>
      cases e<;>first|exact g.elim|skip
      exact O _ _ _ _ d f k o
    | exit i=>cases e<;>first|exact g.elim|exact⟨s,q,_,d,f,k,g,o⟩
    | goto i=>cases e<;>first|exact g.elim|exact⟨s,q,_,d,f,k,g,o⟩
    | ret=>cases e<;>first|exact g.elim|exact⟨s,q,_,d,f,k,g,o⟩
    | aU v=>cases e<;>first|exact g.elim|exact⟨s,q,_,d,f,k,g,o⟩
 exact z n S c a w (ep.refl m c a w _) (ag) J h
def A7 (P:Program)(E:Env)(f:Bool)(a:Code)(K:AX->Nat->St->Prop):Nat->Nat->St->Prop
 | 0,_,_=>False
 | n + 1, g, S => fO P E f a (fun e b d => match e with
   | .normal=>A7 P E f a K n b d
   | e=>K e b d) g S
theorem DW.rounds (y:bZ P E)(j:P.follows .mixedOrders=true){b:Code}{K:AX->Nat->St->Prop}(n:Nat){nx:Nat}{S:St}(h:A7 P E rr b K n nx S):DW P E rr nx (.loop b) K S:=by
 have q:∀(n nx:Nat) (S:St),A7 P E rr b K n nx S->∃g a c,tT P E rr b (pk g a c) n (S.at_ nx)∧K g a c:=by
  intro n
  induction n with
  | zero=>intro nx S h;exact h.elim
  | succ n A =>
    intro nx S h;obtain⟨g,a,c,d,f⟩:=DW.gr y j b h;cases g with
    | normal =>
      obtain⟨p,o,B,D,z⟩:=A a c f;exact⟨p,o,B,d.mono fun e s k=>by grind,z⟩
    | exit i=>exact⟨_,a,c,d.mono fun e s k=>by grind,f⟩
    | goto i=>exact⟨_,a,c,d.mono fun e s k=>by grind,f⟩
    | ret=>exact⟨_,a,c,d.mono fun e s k=>by grind,f⟩
    | aU v=>exact⟨_,a,c,d.mono fun e s k=>by grind,f⟩
 obtain⟨g,a,c,d,f⟩:=q n nx S h;exact⟨g,a,c,SW.rounds n d,f⟩
end
end Go.Ago
end
namespace Go.Ago
open List Nat
def Told (x y:AV):Prop:=∀(c:Ctx) (w:World) (v:Value),Rel c w x v->Rel c w y v
theorem DP.told {P:Program}{E:Env}{g:FuncId}{args:List AV}{Q f:AE->Prop}(h:DP P E g args Q)(i:∀a,Q a->∃x y,a = .ret x∧Told x y∧f (.ret y)):DP P E g args f:=by
 obtain⟨a,d,j⟩:=h;obtain⟨x,y,rfl,k,m⟩:=i _ j;refine⟨.ret y,⟨d.1,fun c w t n o p=>(d.2 c w _ n o p).mono ?_⟩,m⟩
 rintro e u ⟨l,a,r,q,s,b,rfl⟩
 refine⟨l,.ret y,r,q,s,?_,rfl⟩;cases e<;>first|exact b.elim|exact k _ _ _ b
theorem Told.r {x:AV}:Told x x:=fun _ _ _ h=>h
theorem Told.nil {sz:Nat}:Told .ai (.ak sz []):=fun _ _ _ h=>gg.n.rel h
theorem I_ {R:AV->AV->Prop}:∀{xs ys:List AV} {j:Nat} {y:AV},fT R xs ys->ys[j]? = some y->∃x,xs[j]? = some x∧R x y
 | x :: xs, y :: ys, 0, z, h, e => by
   simp at e;subst e;exact⟨x,rfl,h.1⟩
 | x :: xs, y :: ys, j + 1, z, h, e => by
   simp_all
   exact I_ h.2 e
 | [],[],_,_,_,e=>by grind
 | [],_::_,_,_,h,_=>h.elim
 | _::_,[],_,_,h,_=>h.elim
theorem Ja {R:AV->AV->Prop}:∀{xs ys:List AV},fT R xs ys->ys.length=xs.length
 | [],[],_=>rfl
 | x::xs,y::ys,h=>by simp[Ja h.2]
 | [],_::_,h=>h.elim
 | _::_,[],h=>h.elim
def mg (R:AV->AV->Prop):List (List AV)->List (List AV)->Prop
 | [],[]=>True
 | x::b,y::c=>fT R x y∧mg R b c
 | _,_=>False
theorem I8 {R:AV->AV->Prop}:∀{xs ys:List (List AV)},mg R xs ys->ys.length=xs.length
 | [],[],_=>rfl
 | x::xs,y::ys,h=>by simp[I8 h.2]
 | [],_::_,h=>h.elim
 | _::_,[],h=>h.elim
theorem CM {R:AV->AV->Prop}:∀{xs ys:List (List AV)} {j:Nat} {y:List AV},mg R xs ys->ys[j]? = some y->∃x,xs[j]? = some x∧fT R x y
 | x :: xs, y :: ys, 0, z, h, e => by
   simp at e;subst e;exact⟨x,rfl,h.1⟩
 | x :: xs, y :: ys, j + 1, z, h, e => by
   simp_all
   exact CM h.2 e
 | [],[],_,_,_,e=>by grind
 | [],_::_,_,_,h,_=>h.elim
 | _::_,[],_,_,h,_=>h.elim
theorem Told.rows {s:Nat}{es g:List (List AV)}(h:mg Told es g):Told (.ak s es) (.ak s g):=by
 intro c w v u;have d:=I8 h;cases u with
 | ak p E A F q r =>
   rw[<-d];refine .ak p aa (fun G=>A aa) (fun i e f=>?_) (fun i j a b=>q i j aa b) (fun i j e x f y=>?_)
   . obtain ⟨n, m, k⟩ := CM h f
     rw[Ja k]
     grind
   . obtain ⟨n, m, k⟩ := CM h f
     obtain⟨D,z,B⟩:=I_ k y;exact B _ _ _ (r i j n D m z)
 | fh =>
   cases g with
   | nil=>exact .fh s
   | cons _ _=>grind
theorem Told.ao {xs ys:List AV}(h:fT Told xs ys):Told (.ao xs) (.ao ys):=by
 intro c w v e;cases e with
 | ao g e =>
   have:=qo (fun x y v a b=>a c w v b) h ⟨g,e⟩
   exact .ao this.1 this.2
theorem Told.agg {xs ys:List AV}(h:fT Told xs ys):Told (.agg xs) (.agg ys):=by
 intro c w v e;cases e with
 | agg g e =>
   have:=qo (fun x y v a b=>a c w v b) h ⟨g,e⟩
   exact .agg this.1 this.2
end Go.Ago
section
namespace Go.Ago
open List Nat
def AV.r0 (ρ:Nat->Nat):AV->AV
 | .ptr k i o => .ptr (ρ k) i o
 | .ay k i n s => .ay (ρ k) i n s
 | .fZ k => .fZ (ρ k)
 | .cX k => .cX (ρ k)
 | v=>v
def AV.ra (ρ:Nat->Nat):AV->AV
 | .agg a => .agg (a.map (AV.r0 ρ))
 | v=>v.r0 ρ
def AV.r1 (ρ:Nat->Nat):AV->AV
 | .cG t v => .cG t (v.ra ρ)
 | .fn f b a => .fn f (b.map (AV.ra ρ)) (a.map (AV.ra ρ))
 | v=>v.ra ρ
def AV.r2 (ρ:Nat->Nat):AV->AV
 | .ao a => .ao (a.map (AV.r1 ρ))
 | v=>v.r1 ρ
def AV.l0 (n:Nat):AV->Bool
 | .ptr k _ _=>blt k n
 | .ay k _ _ _=>blt k n
 | .fZ k=>blt k n
 | .cX k=>blt k n
 | .agg _=>false
 | .cG _ _=>false
 | .fn _ b a=>b.isEmpty && a.isEmpty
 | .ao _=>false
 | _=>true
def AV.la (n:Nat):AV->Bool
 | .agg a=>a.all (AV.l0 n)
 | v=>v.l0 n
def AV.l1 (n:Nat):AV->Bool
 | .cG _ v=>v.la n
 | .fn _ b a=>b.all (AV.la n) && a.all (AV.la n)
 | v=>v.la n
def AV.l2 (n:Nat):AV->Bool
 | .ao a=>a.all (AV.l1 n)
 | v=>v.l1 n
def an.cp (ρ:Nat->Nat):an->an
 | .arr h a => .arr h (a.map (List.map (AV.r1 ρ)))
 | .dJ s e => .dJ s e
 | .lp g b i f c => .lp g b (i.map fun p=>(p.1,p.2.r2 ρ)) f c
 | .mp a => .mp (a.map fun p=>(p.1,p.2.r1 ρ))
 | .cm d a => .cm d a
def an.lt (n:Nat):an->Prop
 | .arr _ a=>(a.all fun e=>e.all (AV.l1 n))=true
 | .dJ _ _=>True
 | .lp _ _ b _ _=>(b.all fun p=>p.2.l2 n)=true
 | .mp a=>(a.all fun p=>p.2.l1 n)=true
 | .cm _ _=>True
section
variable {c c':Ctx} {w:World} {ρ:Nat->Nat} {n:Nat}
theorem Db (hi:c'.aq=c.aq)(D:∀k,k<n->c'.f k=c.f (ρ k)){y:AV}{v:Value}(d:y.l0 n=true)(h:Rel c w (y.r0 ρ) v):Rel c' w y v:=by
 have hb:c'.bare=c.bare:=by unfold Ctx.bare;rw[hi]
 cases y with
 | any=>exact .any v
 | bool b=>cases h;exact .bool b
 | int k m=>cases h;exact .int k m
 | str l=>cases h;exact .str l
 | dI=>cases h;exact .dI
 | ptr k i o =>
   have q:k<n:=by simpa[AV.l0] using d
   cases h with
   | ptr h=>exact .ptr ((D k q).trans h)
 | bm cs =>
   cases h with
   | bm r g p u=>exact .bm bj g p (fun i x v e e'=>by grind)
 | ai=>cases h;exact .ai
 | cW =>
   cases h with
   | cW a=>exact .cW a
   | iA=>exact .iA
 | ay k i m s =>
   have q:k<n:=by simpa[AV.l0] using d
   cases h with
   | ay r g p u C=>exact .ay ((D k q).trans r) g p u C
 | ak s es =>
   cases h with
   | ak E r g p u C=>exact .ak E r bj p u (fun i j e x e1 e2=>by grind)
   | fh=>exact .fh s
 | fS=>cases h;exact .fS
 | fZ k =>
   have q:k<n:=by simpa[AV.l0] using d
   cases h with
   | fZ h=>exact .fZ ((D k q).trans h)
 | cX k =>
   have q:k<n:=by simpa[AV.l0] using d
   cases h with
   | cX h=>exact .cX ((D k q).trans h)
 | cK es =>
   cases h with
   | cK f r g p u C h6 h7=>exact .cK f bj g p u C h6 (fun k x e=>by grind)
 | fn f xs ys =>
   simp only[AV.l0,zbe,isEmpty_iff] at d;obtain⟨rfl,rfl⟩:=d;cases h with
   | @fn _ _ _ _ _ E us r g p u =>
     have e1:E=[]:=zbh r.symm;have e2:us=[]:=zbh g.symm;subst e1;subst e2;exact .fn f rfl rfl ag ag
 | cY=>cases h;exact .cY
 | cG t v=>cases d
 | eI=>cases h;exact .eI
 | agg cs=>cases d
 | ao E=>cases d
theorem qB {f:AV->AV}{l:AV->Bool}(b:∀y v,l y=true->Rel c w (f y) v->Rel c' w y v){ys:List AV}{vs:List Value}(d:ys.all l=true)(a:(ys.map f).length=vs.length)
 (h:∀(i:Nat) x v,(ys.map f)[i]? = some x->vs[i]? = some v->Rel c w x v):ys.length=vs.length∧∀(i:Nat) x v,ys[i]? = some x->vs[i]? = some v->Rel c' w x v:=by
 grind
theorem yq (hi:c'.aq=c.aq)(e:∀k,k<n->c'.f k=c.f (ρ k)){y:AV}{v:Value}(d:y.la n=true)(h:Rel c w (y.ra ρ) v):Rel c' w y v:=by
 by_cases j:∃g,y = .agg g
 . obtain ⟨g, rfl⟩ := j
   cases h with
   | agg m o =>
     obtain⟨p,q⟩:=qB (fun y v a b=>Db hi e a b) d m o
     exact .agg p q
 . have r : y.ra ρ = y.r0 ρ := by cases y <;> first | rfl | grind
   have i:y.la n=y.l0 n:=by cases y<;>first|rfl|grind
   rw[r] at h;rw[i] at d;exact Db hi e d h
theorem sK (hi:c'.aq=c.aq)(e:∀k,k<n->c'.f k=c.f (ρ k)){y:AV}{v:Value}(d:y.l1 n=true)(h:Rel c w (y.r1 ρ) v):Rel c' w y v:=by
 cases y with
 | cG t y =>
   cases h with
   | cG _ h=>exact .cG t (yq hi e d h)
 | fn f u x =>
   simp only[AV.l1,zbe] at d;cases h with
   | fn _ o p l m =>
     obtain⟨q,s⟩:=qB (fun y v a b=>yq hi e a b) d.1 o l
     obtain⟨r,i⟩:=qB (fun y v a b=>yq hi e a b) d.2 p m
     exact .fn f q r s i
 | _=>exact yq hi e d h
theorem sL (hi:c'.aq=c.aq)(g:∀k,k<n->c'.f k=c.f (ρ k)){y:AV}{v:Value}(e:y.l2 n=true)(h:Rel c w (y.r2 ρ) v):Rel c' w y v:=by
 cases y with
 | ao o =>
   cases h with
   | ao l j =>
     obtain⟨m,i⟩:=qB (fun y v a b=>sK hi g a b) e l j
     exact .ao m i
 | _=>exact sK hi g e h
end
def look:List (Nat×Nat)->Nat->Nat
 | [],k=>k
 | (a,b)::l,k=>bif beq k a then b else look l k
def yv (m:Nat)(l:List (Nat×Nat))(k:Nat):Nat:=bif blt k m then k else look l k
section
variable {P:Program} {E:Env} {rr:Bool}
theorem dq.cp {m l nx:Nat}(ρ:Nat->Nat)(hρ:∀k,k<m->ρ k=k)(W:m≤l){S S':St}(hn:S'.bL=S.bL)(hs:∀t y,S'.bu.get t=some y->S.bu.get t=some (y.r2 ρ)∧y.l2 l=true)
 (Q:∀k o,S'.heap.get k=some o->k<l∧S.heap.get (ρ k)=some (o.cp ρ)∧o.lt l)(hi:∀k k' o o',S'.heap.get k=some o->S'.heap.get k'=some o'->ρ k=ρ k'->k=k'):dq P E m (S.at_ nx) (S'.at_ l):=by
 intro c a w h;refine⟨⟨fun k=>if k<l then c.f (ρ k) else none,c.aq⟩,fun k u=>?_,fun _ h=>h,fun _ h => .inl h,?_,?_⟩
 . grind
 . rintro b ⟨k, o, B, u, d, rfl⟩
   obtain⟨C,A,_⟩:=Q k o u;have U:c.f (ρ k)=some B:=by simpa[C] using d
   exact⟨ρ k,_,B,A,U,rfl⟩
 . have d : ∀ k, k < l->(⟨fun k => if k < l then c.f (ρ k) else none, c.aq⟩ : Ctx).f k = c.f (ρ k) := fun k u => if_pos u
   have q:(⟨fun k=>if k<l then c.f (ρ k) else none,c.aq⟩:Ctx).aq=c.aq:=rfl
   refine⟨h.size.trans hn.symm,fun t y e=>?_,h.defers.mono (zbm _) (fun D _ h1 h2=>⟨h1,h2⟩),⟨h.bC.bN,?_,?_,?_,?_⟩,fun k u=>if_neg (Nat.not_lt.2 u)⟩
   . obtain ⟨C, A⟩ := hs t y e
     obtain⟨v,e1,e2⟩:=h.bu t _ C;exact⟨v,e1,sL q d A e2⟩
   . intro k B e
     by_cases u:k<l
     . rw[d k u] at e;exact h.bC.bW _ B e
     grind
   . intro k o e
     obtain⟨C,A,V⟩:=Q k o e;obtain⟨B,b1,b2,J⟩:=h.bC.obj _ _ A;refine⟨B,(d k C).trans b1,b2,?_⟩;cases o with
     | dJ s pos=>exact J
     | lp st pend sl bL code =>
       obtain⟨r,g,H,K,I,M,O,R⟩:=J;refine⟨r,g,H,K,I,M,O,fun t x W=>?_⟩
       obtain⟨v,X,Y⟩:=R t (x.r2 ρ) (zbG.2 ⟨(t,x),W,rfl⟩);exact⟨v,X,sL q d (zbr.1 V (t,x) W) Y⟩
     | mp N =>
       obtain⟨a0,T,F,H,K,I,f,M,O,R⟩:=J;have z:∀k x,(k,x)∈N->(k,x.r1 ρ)∈N.map fun p=>(p.1,p.2.r1 ρ):=fun k x e=>zbG.2 ⟨(k,x),e,rfl⟩
       refine⟨a0,T,F,H,K,by simpa[cu,zcA] using I,f,fun k x e=>M k _ (z k x e),fun e he=>?_,fun k x e=>sK q d (zbr.1 V _ e) (R k _ (z k x e))⟩
       grind
     | cm cur N=>exact J
     | arr sz N =>
       obtain⟨arr,t,H,K,I,M,O⟩:=J;refine⟨arr,t,H,K,I,by grind,fun i e he=>?_⟩
       obtain⟨f1,f2⟩:=O i (e.map (AV.r1 ρ)) bj;refine⟨by grind,fun j x hx=>?_⟩
       obtain⟨v,X,Y⟩:=f2 j (x.r1 ρ) bj;exact⟨v,X,sK q d (zbr.1 (zbr.1 V e (zby he)) x (zby hx)) Y⟩
   . intro k k' o o' B B' e e' f f' hb
     obtain⟨C,A,_⟩:=Q k o e;obtain⟨Z,g2',_⟩:=Q k' o' e';rw[d k C] at f;rw[d k' Z] at f';exact hi k k' o o' e e' (h.bC.inj _ _ _ _ B B' A g2' f f' hb)
   . intro g cs e
     exact Db (ρ:=ρ) (n:=l) q d rfl (h.bC.bS g cs e)
inductive lX where
 | slot (t:Nat)
 | cell (k j:Nat)
def nameOf:AV->Option Nat
 | .ptr k _ _=>some k
 | .ay k _ _ _=>some k
 | .fZ k=>some k
 | .cX k=>some k
 | _=>none
def lX.find (S:St):lX->Option Nat
 | .slot t => match S.bu.get t with
   | some v=>nameOf v
   | none=>none
 | .cell k j => match S.heap.get k with
   | some (.arr _ (e :: _)) => match e[j]? with
     | some v=>nameOf v
     | none=>none
   | _=>none
def qn (S:St):List (Nat×lX)->List (Nat×Nat)
 | []=>[]
 | (K, r) :: l => match r.find S with
   | some j=>(K,j)::qn S l
   | none=>qn S l
def gF:List (Nat×AV)->Tr AV
 | [] => .nil
 | (t,v)::l => .put t (some v) (gF l)
def gT:List (Nat×an)->aj
 | [] => .nil
 | (t,v)::l => .put t (some v) (gT l)
theorem oI:∀{l:List (Nat×AV)} {t:Nat} {y:AV},(gF l).get t=some y->(t,y)∈l
 | [],t,y,h=>by cases h
 | (k, v) :: l, t, y, h => by
   rw[gF,Tr.get] at h;cases e:beq t k with
   | true =>
     simp_all
   | false=>rw[e] at h;exact zbO _ (oI h)
theorem nA:∀{l:List (Nat×an)} {t:Nat} {y:an},(gT l).get t=some y->(t,y)∈l
 | [],t,y,h=>by cases h
 | (k, v) :: l, t, y, h => by
   rw[gT,Tr.get] at h;cases e:beq t k with
   | true =>
     simp_all
   | false=>rw[e] at h;exact zbO _ (nA h)
def mW (ρ:Nat->Nat)(b:Nat)(S:St):List (Nat×AV)->Prop
 | []=>True
 | (t, y) :: l => (match S.bu.get t with
   | some x=>x=y.r2 ρ∧y.l2 b=true
   | none=>False)∧mW ρ b S l
def AR (ρ:Nat->Nat)(a:Nat)(S:St):List (Nat×an)->Prop
 | []=>True
 | (k, o) :: l => (blt k a = true ∧ match S.heap.get (ρ k) with
   | some x=>x=o.cp ρ∧o.lt a
   | none=>False)∧AR ρ a S l
def pL (ρ:Nat->Nat):List Nat->Bool
 | []=>true
 | k::l=>l.all (fun j=>!beq (ρ k) (ρ j) || beq k j) && pL ρ l
theorem AT {ρ:Nat->Nat}{c:Nat}{S:St}:∀{l:List (Nat×AV)},mW ρ c S l->∀t y,(t,y)∈l->S.bu.get t=some (y.r2 ρ)∧y.l2 c=true
 | (t, y) :: l, h, f, d, b => by
   rcases zbB.1 b with e|b
   . have g := h.1
     grind
   exact AT h.2 _ _ b
theorem FO {ρ:Nat->Nat}{b:Nat}{S:St}:∀{l:List (Nat×an)},AR ρ b S l->∀k o,(k,o)∈l->k<b∧S.heap.get (ρ k)=some (o.cp ρ)∧o.lt b
 | (k, o) :: l, h, d, f, c => by
   rcases zbB.1 c with e|c
   . obtain ⟨g, i⟩ := h.1
     split at *
     . simp_all
     grind
   exact FO h.2 d f c
theorem AS {ρ:Nat->Nat}:∀{l:List Nat},pL ρ l=true->∀k∈l,∀k'∈l,ρ k=ρ k'->k=k'
 | k :: l, h, a, g, b, m, o => by
   simp only[pL,zbe,zbr,zbQ] at h;have i:∀j∈l,ρ k=ρ j->k=j:=fun j n e=>by
    rcases h.1 j n with h|h
    . simp_all
    simp_all
   rcases zbB.1 g with p|d
   . grind
   . rcases zbB.1 m with q | f
     . grind
     . exact AS h.2 a d b f o
def mX (m c:Nat)(a:List (Nat×lX))(S:St)(d:List (Nat×AV))(b:List (Nat×an)):Prop:=
 (pL (yv m (qn S a)) (b.map (·.1))=true∧mW (yv m (qn S a)) c S d)∧AR (yv m (qn S a)) c S b
theorem oe {m b nx:Nat}(g:m≤b){a:List (Nat×lX)}{S:St}{c:List (Nat×AV)}{d:List (Nat×an)}(h:mX m b a S c d):dq P E m (S.at_ nx) ((⟨gF c,S.bL,gT d,0⟩:St).at_ b):=by
 obtain⟨⟨i,j⟩,n⟩:=h;refine dq.cp _ (fun k p=>?_) g rfl (fun t y e=>AT j t y (oI e)) (fun k o e=>FO n k o (nA e)) (fun k r o q e l f=>AS i k (zbG.2 ⟨_,nA e,rfl⟩) _ (zbG.2 ⟨_,nA l,rfl⟩) f)
 unfold yv;rw[show blt k m=true by simp_all]
 rfl
def kN (S:St):List Nat->(List (Nat×AV)->Prop)->Prop
 | [],k=>k []
 | t :: l, k => match S.bu.get t with
   | some v=>v.f3 fun b=>kN S l fun r=>k ((t,b)::r)
   | none=>kN S l k
def lH:aj->List Nat->(List (Nat×an)->Prop)->Prop
 | .put n o t, seen, k => cond (seen.contains n) (lH t seen k) (match o with
   | some o=>lH t (n::seen) fun r=>k ((n,o)::r)
   | none=>lH t (n::seen) k)
 | .fx _ _ _ t,seen,k=>lH t seen k
 | .nil,_,k=>k []
 | .node _ _ _,_,k=>k []
def iH:List (Nat×AV)->(List (Nat×AV)->Prop)->Prop
 | [],k=>k []
 | (t,v)::l,k=>v.f3 fun b=>iH l fun r=>k ((t,b)::r)
def mi:List (Nat×AV)->(Tr AV->Prop)->Prop
 | [],k=>k .nil
 | (t,v)::l,k=>mi l fun r=>k (.put t (some v) r)
def oH:List (Nat×an)->(aj->Prop)->Prop
 | [],k=>k .nil
 | (t,v)::l,k=>oH l fun r=>k (.put t (some v) r)
def er {a:Type}:List a->List a->(List a->Prop)->Prop
 | [],r,k=>k r
 | x::l,r,k=>er l r fun c=>k (x::c)
theorem qi {S:St}:∀{l:List Nat} {k:List (Nat×AV)->Prop},kN S l k->∃r,k r
 | [],_,h=>⟨[],h⟩
 | t :: l, k, h => by
   simp[kN] at h;split at h
   . obtain⟨r,b⟩:=qi (AV.kJ h);grind
   exact qi h
theorem ns:∀{t:aj} {seen:List Nat} {k:List (Nat×an)->Prop},lH t seen k->∃r,k r
 | .put n o t, seen, k, h => by
   simp only[lH] at h;cases b:seen.contains n with
   | true=>rw[b] at h;exact ns h
   | false =>
     rw[b] at h;split at h
     . obtain⟨r,c⟩:=ns h;grind
     . exact ns h
 | .fx _ _ _ t,_,_,h=>ns (t:=t) h
 | .nil,_,_,h=>⟨[],h⟩
 | .node _ _ _,_,_,h=>⟨[],h⟩
theorem jg:∀{l:List (Nat×AV)} {k:List (Nat×AV)->Prop},iH l k->k l
 | [],_,h=>h
 | (t,v)::l,k,h=>jg (l:=l) (AV.kJ h)
theorem nB:∀{l:List (Nat×AV)} {k:Tr AV->Prop},mi l k->k (gF l)
 | [],_,h=>h
 | (t,v)::l,k,h=>nB (l:=l) h
theorem qt:∀{l:List (Nat×an)} {k:aj->Prop},oH l k->k (gT l)
 | [],_,h=>h
 | (t,v)::l,k,h=>qt (l:=l) h
theorem eH {b:Type}:∀{l r:List b} {k:List b->Prop},er l r k->k (l++r)
 | [],_,_,h=>h
 | x::l,r,k,h=>eH (l:=l) h
theorem DW.aO (z:bZ P E)(k:P.follows .mixedOrders=true){α:Type}(i u:List Nat)(o:Nat)(a:α->List (Nat×AV))(n:α->List (Nat×an))(b:List (Nat×lX))(t:α->Nat)(v:α)
 {d:Code}{K:AX->Nat->St->Prop}{nx:Nat}{S:St}
 (h:lH S.heap u fun g=>kN S i fun l=>(iH (a v) fun m=>er m l fun j=>er (n v) g fun c=>mX nx (nx+o) b S j c) ∧
   ∀ x, iH (a x) fun m => er m l fun j => mi j fun r => er (n x) g fun c => oH c fun C => fO P E rr d (fun e f S'=>match e with
    | .normal=>∃p,(iH (a p) fun m=>er m l fun j=>er (n p) g fun c=>mX nx (nx+o) b S' j c)∧S'.bL=S.bL∧t p<t x
    | e=>K e f S') (nx+o) ⟨r,S.bL,C,0⟩):DW P E rr nx (.loop d) K S:=by
 obtain⟨g,h⟩:=ns h;obtain⟨l,B,h⟩:=qi h;have s:nx≤nx+o:=zco _ _;refine DW.loop (fun x=>⟨gF (a x++l),S.bL,gT (n x++g),0⟩) _ t _ s (oe s (eH (eH (jg B)))) fun x=>?_
 have:=qt (eH (nB (eH (jg (h x)))));refine(DW.gr z k _ this).mono fun e f S' y=>?_
 cases e with
 | normal =>
   obtain⟨p,D,G,F⟩:=y;have:=oe (P:=P) (E:=E) (nx:=f) s (eH (eH (jg D)))
   grind
 | _=>exact y
end
end Go.Ago
end
section
namespace Go.Ago
open List Nat
section
variable {P:Program} {E:Env}
theorem DV.pure {nm:Nat}{g:FuncId}{a cap args args':List AV}{H:aj}{Q:AE->Prop}{R:AV->List (Nat×Option an)->List Nat->Prop}(c:aM (snap .nil 20) (a++args++cap)=some args')(h:DP P E g args' Q)(d:∀b,Q b->∃v,b = .ret v∧R v [] []) :
 DV P E nm (.fn (.func g) a cap) args H R:=by
 obtain⟨b,f,i⟩:=h;obtain⟨v,rfl,e⟩:=d _ i;exact .inl ⟨v,[],mI.pure c (PC.mono f (ag)),e⟩
theorem DV.flat {nm:Nat}{g:FuncId}{a cap args args':List AV}{H:aj}{Q:AE->Prop}{R:AV->List (Nat×Option an)->List Nat->Prop}(c:aM (snap H 20) (a++args++cap)=some args')(h:DP P E g args' Q)
 (d:∀b,Q b->∃v,b = .ret v∧v.flat=true∧R v [] ((a++args++cap).flatMap (cC H 20))):DV P E nm (.fn (.func g) a cap) args H R:=by
 obtain⟨b,f,i⟩:=h;obtain⟨v,rfl,j,e⟩:=d _ i;exact .inl ⟨v,_,mI.flat c (PC.mono f (ag)) j,e⟩
theorem DV.new {nm K0 sz n:Nat}{es:List (List AV)}{g:FuncId}{b cap args args':List AV}{H:aj}{R:AV->List (Nat×Option an)->List Nat->Prop}(f:aM (snap .nil 20) (b++args++cap)=some args')
 (h:DC P E g args' .nil 0 (fun c H' _=>c = .ret (.ay K0 0 n sz)∧H'.get K0=some (.arr sz es)))(k:(es.all fun e=>e.all hU)=true)(l:ble (nm+2) 16777216=true)(o:R (.ay nm 0 n sz) [(nm,some (.arr sz es))] []) :
 DV P E nm (.fn (.func g) b cap) args H R:=by
 obtain⟨c,H',p,r,s⟩:=h;refine .inr (.inl ⟨_,_,⟨g,b,cap,args',K0,.arr _ _,_,rfl,f,AC.mono r fun a h m t=>?_,fun i e q j x d=>?_,.inl ⟨n,sz,rfl,rfl⟩,rfl,?_⟩,o⟩)
 . grind
 . exact zbr.1 (zbr.1 k e (zby q)) x (zby d)
 have:=zbb l;omega
end
structure BL (α:Type) where
 l:List α
 h:l.length<281474976710656
theorem aE {n:Int}(h : -9223372036854775808≤n)(a:n<9223372036854775808):wr .i64 n=n:=by
 show IntKind.wrap _ n=n;simp[IntKind.wrap,IntKind.bits,IntKind.signed];omega
end Go.Ago
end
section
namespace Go.Ago
open List Nat
def oV (E:Env)(b:Func)(R:AE->aj->Nat->Prop):AX->Nat->St->Prop
 | .normal, a, S | .ret, a, S => match ig E b S with
   | some x => x.f3 fun y => match S with
     | ⟨_,_,H,_⟩=>R (.ret y) H a
   | none=>False
 | .aU v,a,S=>v.f3 fun y=>match S with
  | ⟨_,_,H,_⟩=>R (.aU y) H a
 | _,_,_=>False
theorem Kg {E:Env}{j:Func}{R:AE->aj->Nat->Prop}{e:AX}{nx:Nat}{S:St}(h:oV E j R e nx S):qE E j R e nx S:=by
 obtain⟨a,b,H,d⟩:=S;cases e with
 | normal =>
   simp[oV] at h;simp[qE];split at h
   . rename_i e;rw[e];exact AV.kJ h
   grind
 | ret =>
   simp[oV] at h;simp[qE];split at h
   . rename_i e;rw[e];exact AV.kJ h
   grind
 | aU v=>exact AV.kJ (k:=fun y=>R _ H _) h
 | exit i=>exact h
 | goto i=>exact h
variable {P:Program} {E:Env} {rr:Bool}
theorem DC.walk {f:FuncId}{a:Func}{code:Code}{args:List AV}{H:aj}{nx:Nat}{R:AE->aj->Nat->Prop}(c:bZ P E)(b:P.follows .mixedOrders=true)(k:P.funcs[f]? = some a)(i:a.body=some code)(j:a.name ≠ "runtime.NumGoroutine")
 (d:ble args.length a.ntmps=true)(l:blt a.ntmps 1000000=true)(h:fL AV.f1 args fun args'=>nk args' 0 .nil fun m=>fN a.ntmps fun n=>fO P E false code (oV E a R) nx ⟨m,n,H,0⟩):DC P E f args H nx R:=by
 have o:=zbb d;have p:=by simpa using l
 refine DC.nC c k i j aa ?_;rw[uJ d];exact(DW.gr c b _ (rN (sa (gp (fun _ _ h=>AV.gm h) h)))).mono fun e _ s g=>Kg g
end Go.Ago
end
namespace Go.Ago
open Go.Proofs List Nat Tryz
def xT:List AV:=[.int .i8 0,.int .i8 0,.int .i8 0,.int .i8 0,.int .i8 0,.int .i8 1,.int .i8 0,.int .i8 1,.int .i8 1,.int .i8 0,.int .i8 1,.int .i8 0,.int .i8 2,.int .i8 0,.int .i8 2,.int .i8 0,.int .i8 2,.int .i8 0,.int .i8 2,.int .i8 0,.int .i8 2,.int .i8 0,.int .i8 1,.int .i8 0,.int .i8 2,.int .i8 0,.int .i8 2,.int .i8 0,.int .i8 2,.int .i8 0,.int .i8 2,.int .i8 0,.int .i8 2,.int .i8 0,.int .i8 1,.int .i8 0,.int .i8 2,.int .i8 0,.int .i8 3,.int .i8 0,.int .i8 2,.int .i8 0,.int .i8 1,.int .i8 0,.int .i8 2,.int .i8 0,.int .i8 3,.int .i8 0,.int .i8 2,.int .i8 0,.int .i8 (-1),.int .i8 0,.int .i8 0,.int .i8 0,.int .i8 0,.int .i8 0,.int .i8 0,.int .i8 0,.int .i8 0,.int .i8 0,.int .i8 1,.int .i8 1,.int .i8 1,.int .i8 1]
def DD:List AV:=[.int .i8 0,.int .i8 0,.int .i8 0,.int .i8 0,.int .i8 0,.int .i8 0,.int .i8 0,.int .i8 0,.int .i8 0,.int .i8 0,.int .i8 1,.int .i8 1,.int .i8 1,.int .i8 1,.int .i8 0,.int .i8 0,.int .i8 0,.int .i8 0,.int .i8 0,.int .i8 1,.int .i8 0,.int .i8 0,.int .i8 1,.int .i8 1,.int .i8 1,.int .i8 0,.int .i8 0,.int .i8 0,.int .i8 0,.int .i8 3,.int .i8 0,.int .i8 0,.int .i8 0,.int .i8 8,.int .i8 1,.int .i8 0,.int .i8 0,.int .i8 0,.int .i8 1,.int .i8 0,.int .i8 0,.int .i8 0,.int .i8 0,.int .i8 0,.int .i8 7,.int .i8 0,.int .i8 0,.int .i8 0,.int .i8 0,.int .i8 6,.int .i8 0,.int .i8 0,.int .i8 0,.int .i8 0,.int .i8 6,.int .i8 1,.int .i8 2,.int .i8 0,.int .i8 0,.int .i8 1,.int .i8 0,.int .i8 1,.int .i8 1,.int .i8 1,.int .i8 0,.int .i8 0,.int .i8 0,.int .i8 0,.int .i8 0,.int .i8 1,.int .i8 0,.int .i8 0,.int .i8 0,.int .i8 0,.int .i8 1,.int .i8 0,.int .i8 0,.int .i8 0,.int .i8 16,.int .i8 26,.int .i8 1,.int .i8 16,.int .i8 0,.int .i8 0,.int .i8 10,.int .i8 1,.int .i8 1,.int .i8 0,.int .i8 1,.int .i8 2,.int .i8 1,.int .i8 1,.int .i8 1,.int .i8 1,.int .i8 2,.int .i8 1,.int .i8 1,.int .i8 1,.int .i8 1,.int .i8 2,.int .i8 0,.int .i8 0,.int .i8 1,.int .i8 1,.int .i8 2,.int .i8 2,.int .i8 2,.int .i8 0,.int .i8 0,.int .i8 0,.int .i8 0,.int .i8 0,.int .i8 0,.int .i8 0,.int .i8 0]
def uZ:List AV:=[.int .u8 123,.int .u8 65,.int .u8 66,.int .u8 67,.int .u8 68,.int .u8 69,.int .u8 70,.int .u8 71,.int .u8 72,.int .u8 73,.int .u8 125,.int .u8 74,.int .u8 75,.int .u8 76,.int .u8 77,.int .u8 78,.int .u8 79,.int .u8 80,.int .u8 81,.int .u8 82]
def SU:eZ:=fun g=>bif beq g 0 then some xT else bif beq g 1 then some DD else bif beq g 3 then some uZ else none
def fB:Env:=⟨Bk.get,SU⟩
abbrev af (f:FuncId)(args:List AV)(Q:AE->Prop):Prop:=DP prog fB f args Q
theorem aD:prog.follows .mixedOrders=true:=by kernel_rfl
theorem aC:bZ prog fB:=RA _
abbrev i64 (n:Int):AV := .int .i64 n
abbrev cc (p:Bool->Prop):AE->Prop:=fun ae=>∃b,ae = .ret (.bool b)∧p b
abbrev eS (p:Int->Prop):AE->Prop:=fun ae=>∃n,ae = .ret (.int .i64 n)∧p n
theorem mZ {a b:Int}:(aV a b=true)=(a=b):=by simp[aV]
theorem wO {a b:Int}:(aV a b=false)=¬(a=b):=by simp[aV]
theorem Cv {a b:Int}:(bA a b=true)=(a<b):=by simp[bA]
theorem Cu {a b:Int}:(bA a b=false)=(b≤a):=by simp[bA]
theorem Cr {a b:Int}:(bw a b=true)=(a≤b):=by simp[bw]
theorem Cq {a b:Int}:(bw a b=false)=(b<a):=by simp[bw]
theorem hY {n:Int}{l:Nat}:(aZ n l=true)=(0≤n∧n<l):=by simp[aZ]
theorem qM {a b n:Int}:(jB a b n=true)=(0≤a∧a≤b∧b≤n):=by simp[jB,and_assoc]
theorem bO {α:Type}{l:List α}{f:α->List AV}{i:Nat}(h:i<l.length):(l.map f)[((i:Int)).toNat]? = some (f l[i]):=by simp[h]
structure Ty where
 kind:Int
 p:Int
 q:Int
 fz:Bool
 eA:List UInt8
 hp:eA.length<281474976710656
abbrev Ty.cells (t:Ty):List AV:=[.int .i64 t.kind,.int .i64 t.p,.int .i64 t.q,.bool t.fz,.str t.eA]
abbrev Ty.av (t:Ty):AV := .agg t.cells
structure Vl where
 n:Int
 s:List UInt8
 hs:s.length<281474976710656
abbrev Vl.cells (v:Vl):List AV:=[.int .i64 v.n,.str v.s]
abbrev Vl.av (v:Vl):AV := .agg v.cells
abbrev iL (ts:List Ty):AV := .ak 5 (ts.map Ty.cells)
abbrev aT (l:List Int):AV := .ak 1 (l.map fun n=>[i64 n])
structure Fm where
 kind:Int
 w:Int
 d:Int
 eA:BL UInt8
abbrev Fm.cells (t:Fm):List AV:=[i64 t.kind,i64 t.w,i64 t.d,.str t.eA.l]
abbrev l_ (l:List Fm):AV := .ak 4 (l.map Fm.cells)
structure Ins where
 op:Int
 d:Int
 a:Int
 b:Int
 t:Ty
 u:Ty
 w:Ty
 n:Int
 m:Int
 p:Int
 v:Vl
 f:BL Fm
 l:BL Int
 y:BL Ty
 size:Bool
 range:Bool
abbrev Ins.cells (i:Ins):List AV:=[i64 i.op,i64 i.d,i64 i.a,i64 i.b,i64 i.t.kind,i64 i.t.p,i64 i.t.q,.bool i.t.fz,.str i.t.eA,
 i64 i.u.kind,i64 i.u.p,i64 i.u.q,.bool i.u.fz,.str i.u.eA,i64 i.w.kind,i64 i.w.p,i64 i.w.q,.bool i.w.fz,.str i.w.eA,i64 i.n,i64 i.m,i64 i.p,i64 i.v.n,.str i.v.s,
 l_ i.f.l,aT i.l.l,iL i.y.l,.bool i.size,.bool i.range]
abbrev Ins.av (i:Ins):AV := .agg i.cells
abbrev mc (l:List Ins):AV := .ak 29 (l.map Ins.cells)
structure Bd where
 ah:Int
 ins:BL Ins
abbrev Bd.cells (b:Bd):List AV:=[i64 b.ah,mc b.ins.l]
abbrev Bd.av (b:Bd):AV := .agg b.cells
abbrev wg (l:List Bd):AV := .ak 2 (l.map Bd.cells)
structure iR where
 at_:Int
 t:Ty
 v:Vl
abbrev iR.cells (i:iR):List AV:=[i64 i.at_,i64 i.t.kind,i64 i.t.p,i64 i.t.q,.bool i.t.fz,.str i.t.eA,i64 i.v.n,.str i.v.s]
abbrev nj (l:List iR):AV := .ak 8 (l.map iR.cells)
structure Fl where
 name:BL UInt8
 kind:Int
abbrev Fl.cells (f:Fl):List AV:=[.str f.name.l,i64 f.kind]
abbrev pY (l:List Fl):AV := .ak 2 (l.map Fl.cells)
def rh (EP:List AV->Prop)(cs:List AV):Prop:=∃(e:List AV) (lo hi st:Int),cs=e++[i64 lo,i64 hi,i64 st]∧EP e
def j8 (EP:List AV->Prop)(cs:List AV):Prop:=∃(b u n o:Int) (p s:BL (List AV)) (t:Ty),
 cs=[i64 b,i64 u,i64 n,i64 o,.ak 11 p.l,.ak 14 s.l,i64 t.kind,i64 t.p,i64 t.q,.bool t.fz,.str t.eA]∧(∀x∈p.l,EP x)∧∀x∈s.l,rh EP x
def cP:Nat->List AV->Prop
 | 0,_=>False
 | d + 1, cs => ∃ (op : Int) (t : Ty) (v : Vl) (n : Int) (l r : BL (List AV)),
   cs=[i64 op,i64 t.kind,i64 t.p,i64 t.q,.bool t.fz,.str t.eA,i64 v.n,.str v.s,i64 n,.ak 11 l.l,.ak 11 r.l]∧(∀x∈l.l,cP d x)∧∀x∈r.l,j8 (cP d) x
def mR (d:Nat)(cs:List AV):Prop:=∃(kind no:Int) (r e:BL (List AV)) (n p c:Int) (f:BL Fm) (skip:Int) (size range:Bool),
 cs=[i64 kind,i64 no,.ak 11 r.l,.ak 11 e.l,i64 n,i64 p,i64 c,l_ f.l,i64 skip,.bool size,.bool range]∧(∀x∈r.l,j8 (cP d) x)∧∀x∈e.l,cP d x
structure eG where
 name:BL UInt8
 parent:Int
 params:Int
 size:Int
 init:BL iR
 body:BL (List AV)
 lK:BL Ty
 dep:Nat
 hb:∀x∈body.l,mR dep x
abbrev eG.cells (p:eG):List AV:=[.str p.name.l,i64 p.parent,i64 p.params,i64 p.size,nj p.init.l,.ak 11 p.body.l,iL p.lK.l]
abbrev eG.av (p:eG):AV := .agg p.cells
abbrev mn (l:List eG):AV := .ak 7 (l.map eG.cells)
structure cQ where
 procs:BL eG
 static:Int
 image:BL iR
 files:BL Fl
 conds:BL (BL UInt8)
 dv:BL Int
abbrev cQ.cells (p:cQ):List AV:=[mn p.procs.l,i64 p.static,nj p.image.l,pY p.files.l,.ak 1 (p.conds.l.map fun s=>[.str s.l]),aT p.dv.l]
abbrev cQ.av (p:cQ):AV := .agg p.cells
structure Cd where
 p:cQ
 b:BL Bd
abbrev Cd.cells (c:Cd):List AV:=[mn c.p.procs.l,i64 c.p.static,nj c.p.image.l,pY c.p.files.l,.ak 1 (c.p.conds.l.map fun s=>[.str s.l]),aT c.p.dv.l,wg c.b.l]
abbrev Cd.av (c:Cd):AV := .agg c.cells
abbrev Es (e:Int):AV := .cG 219 (.agg [i64 e])
abbrev oW (p:Prop):AE->Prop:=fun ae=>(ae = .ret (.ao [])∧p)∨∃e,ae = .aU (Es e)∧e≠0
theorem dA {α:Type}{l:List α}{f:α->List AV}{n:Int}(h:n.toNat<l.length):(l.map f)[n.toNat]? = some (f l[n.toNat]):=by simp[h]
def Ac (i:Nat)(p:eG):Prop:=(i=0->p.parent = -1)∧(i≠0->0≤p.parent∧p.parent≤(i:Int) - 1)∧p.lK.l.length≤1∧0≤p.params∧p.params≤8
def tR (l:List eG)(n:Nat):Prop:=∀(i:Nat) (h:i<l.length),i<n->Ac i l[i]
abbrev jt (l:List eG):Prop:=tR l l.length
theorem tR.succ {l:List eG}{n:Nat}(h:tR l n)(hn:n<l.length)(hp:Ac n l[n]):tR l (n+1):=by
 intro i hi hin;rcases zbI i n with h1|h1
 . exact h i hi h1
 . obtain rfl : i = n := by omega
   exact hp
structure Ck where
 p:cQ
 proc:Int
 ar:BL Int
 fQ:0≤proc∧proc<p.procs.l.length
 HC:∀a∈ar.l,0≤a∧a<(p.procs.l.length:Int)
 hp:jt p.procs.l
abbrev Ck.cells (c:Ck):List AV:=[mn c.p.procs.l,i64 c.p.static,nj c.p.image.l,pY c.p.files.l,.ak 1 (c.p.conds.l.map fun s=>[.str s.l]),aT c.p.dv.l,i64 c.proc,aT c.ar.l]
abbrev Ck.av (c:Ck):AV := .bm c.cells
theorem CX {d:Nat}{l:List (List AV)}{n:Int}(hl:∀x∈l,cP d x)(h:n.toNat<l.length):∃(op:Int) (t:Ty) (v:Vl) (m:Int) (l1 r1:BL (List AV)),
 l[n.toNat]? = some [i64 op,i64 t.kind,i64 t.p,i64 t.q,.bool t.fz,.str t.eA,i64 v.n,.str v.s,i64 m,.ak 11 l1.l,.ak 11 r1.l]∧(∀x∈l1.l,cP (d - 1) x)∧∀x∈r1.l,j8 (cP (d - 1)) x:=by
 have hm:=hl _ (za9 h);cases d with
 | zero=>exact hm.elim
 | succ d =>
   obtain⟨op,t,v,m,l1,r1,he,h1,h2⟩:=hm;exact⟨op,t,v,m,l1,r1,by rw[zbf h,he],h1,h2⟩
theorem qv {EP:List AV->Prop}{l:List (List AV)}{n:Int}(hl:∀x∈l,j8 EP x)(h:n.toNat<l.length):∃(b u m o:Int) (p s:BL (List AV)) (t:Ty),
 l[n.toNat]? = some [i64 b,i64 u,i64 m,i64 o,.ak 11 p.l,.ak 14 s.l,i64 t.kind,i64 t.p,i64 t.q,.bool t.fz,.str t.eA]∧(∀x∈p.l,EP x)∧∀x∈s.l,rh EP x:=by
 obtain⟨b,u,m,o,p,s,t,he,h1,h2⟩:=hl _ (za9 h);exact⟨b,u,m,o,p,s,t,by rw[zbf h,he],h1,h2⟩
theorem B_ {n:Int}{l:Nat}:(aZ n l=false)=¬(0≤n∧n<l):=by simp[aZ]
theorem bz:((¬True)=False)∧(∀{n:Int} {l:Nat},(aZ n l=true)=(0≤n∧n<(l:Int)))∧(∀{n:Int} {l:Nat},(aZ n l=false)=¬(0≤n∧n<(l:Int)))∧(∀{p:Prop} [_i:Decidable p],(decide p=true)=p)∧(∀{p:Prop} {_i:Decidable p},decide p=false↔¬p) ∧
 (∀(a b:Bool),((a && b)=true)=(a=true∧b=true))∧(∀{x y:Bool},(x && y)=false↔x=false∨y=false)∧(∀(b:Bool),(¬b=true)=(b=false))∧(∀(b:Bool),(¬b=false)=(b=true))∧(∀(a b:Bool),((a || b)=true)=(a=true∨b=true))∧(∀{x y:Bool},(x || y)=false↔x=false∧y=false) ∧
 (∀{α:Type} {β:Type} {l:List α} (f:α->β),(List.map f l).length=l.length)∧(∀{α:Type} {a:α} {l:List α},(a::l).length=l.length+1)∧(∀{α:Type},([]:List α).length=0) ∧
 (∀{a b:Int},(aV a b=true)=(a=b))∧(∀{a b:Int},(aV a b=false)=¬a=b)∧(∀{a b:Int},(bw a b=true)=(a≤b))∧(∀{a b:Int},(bw a b=false)=(b<a))∧(∀{a b:Int},(bA a b=true)=(a<b))∧(∀{a b:Int},(bA a b=false)=(b≤a))∧(∀(b:Bool),((!b)=true)=(b=false))∧∀(b:Bool),((!b)=false)=(b=true):=
 ⟨not_true_eq_false,@hY,@B_,@zbz,@zcZ,@zbe,@Bool.and_eq_false_iff,@Bool.not_eq_true,@Bool.not_eq_false,@zbQ,@zc5,@zba,@zbd,@zbp,@mZ,@wO,@Cr,@Cq,@Cv,@Cu,@zb4,@zde⟩
theorem cw {a b:Int}(h1 : -9223372036854775808≤a)(h2:a<9223372036854775808)(h:a=b):AV.int .i64 (wr .i64 a)=AV.int .i64 b:=by rw[aE h1 h2,h]
theorem rz:(∀{n:Int} {l:Nat},(aZ n l=true)=(0≤n∧n<(l:Int)))∧(∀{a b n:Int},(jB a b n=true)=(0≤a∧a≤b∧b≤n))∧(∀{p:Prop} [_i:Decidable p],(decide p=true)=p)∧(∀(a b:Bool),((a && b)=true)=(a=true∧b=true))∧(∀(b:Bool),((!b)=true)=(b=false)) ∧
 (∀{p:Prop} {_i:Decidable p},decide p=false↔¬p)∧(∀{n m:Nat},(ble n m=true)=(n≤m))∧(∀{α:Type} {β:Type} {l:List α} (f:α->β),(List.map f l).length=l.length)∧(∀{α:Type} {a:α} {l:List α},(a::l).length=l.length+1)∧(∀{α:Type},([]:List α).length=0) ∧
 (∀{α:Type} {l r:List α},(l++r).length=l.length+r.length):=
 ⟨@hY,@qM,@zbz,@zbe,@zb4,@zcZ,@ble_eq,@zba,@zbd,@zbp,@zbk⟩
abbrev jV (p:Prop):AE->Prop:=fun ae=>(ae = .ret (.bool true)∧p)∨(ae = .ret (.bool false)∧¬p)
theorem DP.dec {g:FuncId}{args:List AV}{p:Prop}(h:af g args (cc fun b=>b=true↔p)):af g args (jV p):=by
 refine h.mono ?_
 rintro ae ⟨b,rfl,hb⟩
 cases b with
 | true=>exact .inl ⟨rfl,hb.1 rfl⟩
 | false=>exact .inr ⟨rfl,fun hp=>by have:=hb.2 hp;cases this⟩
structure Bx (Q:Prop):Prop where
 v:Q
inductive Rt (R:AV->List (Nat×Option an)->List Nat->Prop):AE->Prop where
 | mk (v:AV) (h:R v [] []):Rt R (.ret v)
theorem zg {P Q:Prop}(k:Q)(h:Bx Q->P:=by first|(intro q;(conv=>whnf);(repeat' ((first|(apply Rq.mk (b:=gJ _ _ _ _ _ _);(focus (exact aG)))|(apply Rq.mk;(focus (exact kW)))|refine az.mk _ (bO aa) ?_|refine az.mk _ (dA aa) ?_|refine And.intro (a:=iX _=true) aG (kZ.e ?_)|refine Rt.mk _ ?_)<;>conv=>whnf));exact q.v)|(intro q;have x:True:=q.v;clear x q;(conv=>whnf);(repeat' ((first|(apply Rq.mk (b:=gJ _ _ _ _ _ _);(focus (exact aG)))|(apply Rq.mk;(focus (exact kW)))|refine az.mk _ (bO aa) ?_|refine az.mk _ (dA aa) ?_|refine And.intro (a:=iX _=true) aG (kZ.e ?_)|refine Rt.mk _ ?_)<;>conv=>whnf));done)|fail):P:=h ⟨k⟩
theorem zk {P Q:Prop}(k:Q)(h:Bx Q->P:=by first|(intro q;(conv=>whnf);(repeat' ((first|(apply Rq.mk (b:=gJ _ _ _ _ _ _);(focus (exact aG)))|(apply Rq.mk;(focus (exact kW)))|refine And.intro (a:=iX _=true) aG (kZ.e ?_)|refine Rt.mk _ ?_)<;>conv=>whnf));exact q.v)|(intro q;have x:True:=q.v;clear x q;(conv=>whnf);(repeat' ((first|(apply Rq.mk (b:=gJ _ _ _ _ _ _);(focus (exact aG)))|(apply Rq.mk;(focus (exact kW)))|refine And.intro (a:=iX _=true) aG (kZ.e ?_)|refine Rt.mk _ ?_)<;>conv=>whnf));done)|fail):P:=h ⟨k⟩
theorem zj {P Q:Prop}(k:Q)(h:Bx Q->P:=by first|(intro q;(conv=>whnf);(repeat' ((first|(apply Rq.mk (b:=gJ _ _ _ _ _ _);(focus (exact aG)))|refine And.intro (a:=iX _=true) aG (kZ.e ?_)|refine Rt.mk _ ?_)<;>conv=>whnf));exact q.v)|(intro q;have x:True:=q.v;clear x q;(conv=>whnf);(repeat' ((first|(apply Rq.mk (b:=gJ _ _ _ _ _ _);(focus (exact aG)))|refine And.intro (a:=iX _=true) aG (kZ.e ?_)|refine Rt.mk _ ?_)<;>conv=>whnf));done)|fail):P:=h ⟨k⟩
theorem zq {b:Bool}{A:Prop}(k:A)(h:b=true:=by first|rfl|((try simp only[rz]);omega)|fail):Rq b A := .mk h k
theorem zb {P Q R:Prop}(k:Q)(l:R)(h:Bx Q->Bx R->P:=by first|(intro q r;(first|refine Br.split (fun h=>?_) (fun h=>?_)|refine pM (fun h=>?_) (fun h=>?_));(first|((try simp only[bz] at h);revert h;exact q.v)|(have x:True:=q.v;clear x q r;exfalso;simp only[bz] at h;done));(first|((try simp only[bz] at h);revert h;exact r.v)|(have x:True:=r.v;clear x q r;exfalso;simp only[bz] at h;done)))|fail):P:=h ⟨k⟩ ⟨l⟩
theorem zp {P Q R:Prop}(k:Q)(l:R)(h:Bx Q->Bx R->P:=by first|(intro q r;(first|refine Br.split (fun h=>?_) (fun h=>?_)|refine pM (fun h=>?_) (fun h=>?_));(first|((try simp only[bz] at h);first|(have x:True:=q.v;clear x q r;exfalso;omega)|(revert h;exact q.v))|(have x:True:=q.v;clear x q r;exfalso;simp only[bz] at h;done));(first|((try simp only[bz] at h);first|(have x:True:=r.v;clear x q r;exfalso;omega)|(revert h;exact r.v))|(have x:True:=r.v;clear x q r;exfalso;simp only[bz] at h;done)))|fail):P:=h ⟨k⟩ ⟨l⟩
theorem zl {α:Sort _}{P:Prop}{Q:α->Prop}(k:∀i,Q i)(h:Bx (∀i,Q i)->P:=by first|(intro q;(conv=>whnf);refine And.intro ?_ ?_;(focus ((conv=>whnf);(exact o8)));exact q.v)|fail):P:=h ⟨k⟩
theorem zi {α:Sort _}{A C:α->Prop}{B:Prop}(x:α)(a:A x:=by first|((conv=>whnf);(exact o8);done)|fail)(b:B:=by first|rfl|fail)(c:C x:=by first|((try simp only[zba] at *)<;>omega;done)|fail):∃x,A x∧B∧C x:=⟨x,a,b,c⟩
theorem zf {a b:Nat}{A B:Prop}(k:B)(h:beq a b=false:=by first|exact rfl|fail):Br (beq a b) A B := .f h k
theorem zo {e:List AV}{f:List AV->Prop}(k:f e):az (some e) f := .mk e rfl k
theorem zw {f:FuncId}{fn:Func}{args:List AV}{Q:AE->Prop}(hf:prog.funcs[f]? = some fn)(h:fL AV.f1 args fun args'=>nk args' 0 .nil fun sl=>fN fn.ntmps fun n=>fO prog fB false (fn.body.getD .skip) (fun e _ S=>qD fB fn Q e S) 0 ⟨sl,n,.nil,0⟩)(hb:fn.body.isSome=true:=by first|rfl|fail)(hn:fn.name ≠ "runtime.NumGoroutine":=by first|decide|fail)(hl:ble args.length fn.ntmps=true:=by first|rfl|fail)(hs:blt fn.ntmps 1000000=true:=by first|rfl|fail):DP prog fB f args Q:=DP.walk aC aD hf (by revert hb;cases fn.body<;>simp) hn hl hs h
theorem zd {f:FuncId}{fn:Func}{args:List AV}{H:aj}{nx:Nat}{R:AE->aj->Nat->Prop}(hf:prog.funcs[f]? = some fn)(h:fL AV.f1 args fun args'=>nk args' 0 .nil fun sl=>fN fn.ntmps fun n=>fO prog fB false (fn.body.getD .skip) (oV fB fn R) nx ⟨sl,n,H,0⟩)(hb:fn.body.isSome=true:=by first|rfl|fail)(hn:fn.name ≠ "runtime.NumGoroutine":=by first|decide|fail)(hl:ble args.length fn.ntmps=true:=by first|rfl|fail)(hs:blt fn.ntmps 1000000=true:=by first|rfl|fail):DC prog fB f args H nx R:=DC.walk aC aD hf (by revert hb;cases fn.body<;>simp) hn hl hs h
theorem zh {nm:Nat}{g:FuncId}{first cap args args':List AV}{H:aj}{Q:AE->Prop}{R:AV->List (Nat×Option an)->List Nat->Prop}(hs:aM (snap .nil 20) (first++args++cap)=some args')(h:DP prog fB g args' Q)(hq:∀ae,Q ae->Rt R ae):DV prog fB nm (.fn (.func g) first cap) args H R:=
 DV.pure hs h fun ae k=>match ae,hq ae k with
  | _,.mk v h=>⟨v,rfl,h⟩
abbrev cM (f:FuncId)(args:List AV)(H:aj)(nx:Nat)(R:AE->aj->Nat->Prop):Prop:=DC prog fB f args H nx R
theorem W {P : Prop}(h:P:=by
 conv=>whnf
 repeat' ((first
  | refine Rq.mk (b:=gJ _ _ _ _ _ _) aG ?_
  | refine Rq.mk kW ?_
  | ((first|refine Br.split (fun h=>?_) (fun h=>?_)|refine pM (fun h=>?_) (fun h=>?_))<;>(try simp only[bz] at h)<;>try (exfalso;omega))
  | refine az.mk _ (bO aa) ?_
  | refine az.mk _ (dA aa) ?_
  | ((first|refine DC.pure rfl (k1 ..) ?_|refine DC.pure rfl (k2 ..) ?_|refine DC.pure rfl (k3 ..) ?_|refine DC.pure rfl (k4 ..) ?_|refine DC.pure rfl (k5 ..) ?_|refine DC.pure rfl (k6 ..) ?_|refine DC.pure rfl (k7 ..) ?_|refine DC.pure rfl (k8 ..) ?_|refine DC.pure rfl (k9 ..) ?_);first|rintro _ rfl|rintro _ ⟨b,rfl,hb⟩|rintro _ (⟨rfl,hx⟩|⟨rfl,hx⟩))
  | ((first|refine DV.pure rfl (k1 ..) ?_|refine DV.pure rfl (k2 ..) ?_|refine DV.pure rfl (k3 ..) ?_|refine DV.pure rfl (k4 ..) ?_|refine DV.pure rfl (k5 ..) ?_|refine DV.pure rfl (k6 ..) ?_|refine DV.pure rfl (k7 ..) ?_|refine DV.pure rfl (k8 ..) ?_|refine DV.pure rfl (k9 ..) ?_);(first|rintro _ rfl|rintro _ ⟨b,rfl,hb⟩)<;>refine⟨_,rfl,?_⟩)
  | refine And.intro (a:=iX _=true) aG (kZ.e ?_)
  | refine az.mk _ rfl ?_)<;>conv=>whnf)
 all_goals first|rfl|exact⟨_,rfl,trivial⟩|exact⟨_,_,rfl⟩|exact⟨_,rfl,by omega⟩|exact⟨_,rfl,by simp;omega⟩|exact⟨_,rfl,by simp_all⟩|(simp only[*];rfl)|exact⟨_,rfl,by simp only[true_iff,zcY,zbH];omega⟩|exact⟨_,rfl,by grind⟩):P:=h
end Go.Ago
section
namespace Go.Ago
open List Nat
open Go.RowKit
theorem Cn {S:St}:∀{l:List Nat} {k:List (Nat×AV)->Prop},kN S l k->∃r,k r∧∀t x,(t,x)∈r->S.bu.get t=some x
 | [],_,h=>⟨[],h,fun _ _ h=>by cases h⟩
 | t :: l, k, h => by
   simp[kN] at h;split at h
   . obtain ⟨r, b, c⟩ := Cn (AV.kJ h)
     grind
   exact Cn h
def sI:List Tmp->List AV->Tr AV->Tr AV
 | p::b,x::c,t=>sI b c (.put p (some x) t)
 | _,_,t=>t
section
variable {P:Program} {E:Env} {c:Ctx} {w:World}
theorem Sr (l:List (Tmp×Value)):∀(a:Array Value),(l.foldl (fun t (p,v)=>t.setIfInBounds p v) a).size=a.size:=by
 induction l<;>grind
theorem JX:∀{ps:List Tmp} {xs:List AV} {vs:List Value} {T:Tr AV} {b:Array Value},aP c w xs vs->(∀p∈ps,p<b.size)->(∀t x,T.get t=some x->∃v,b[t]? = some v∧Rel c w x v)->
 ∀t x,(sI ps xs T).get t=some x->∃v,((ps.zip vs).foldl (fun t (p,v)=>t.setIfInBounds p v) b)[t]? = some v∧Rel c w x v
 | [], xs, vs, T, b, _, _, h, t, x, e => by
   have:sI [] xs T=T:=by cases xs<;>rfl
   simp_all
 | p :: ps, [], vs, T, b, d, _, h, t, x, e => by
   obtain rfl:=d.fX
   simpa using h t x e
 | p :: ps, y :: xs, vs, T, b, d, z, h, t, x, e => by
   obtain⟨v,m,rfl,r,f⟩:=d.dP;refine JX (ps:=ps) (xs:=xs) (vs:=m) (T := .put p (some y) T) f (fun q o=>by grind) (fun i l g=>?_) t x e
   rw[Tr.get] at g;cases j:beq i p with
   | true =>
     simp_all
   | false =>
     rw[j] at g;obtain⟨u,s,n⟩:=h i l g;refine⟨u,?_,n⟩;have k:p≠i:=by rintro rfl;simp at j
     grind
def ER (k:Nat)(R:AE->aj->Nat->Prop)(e:AX)(nx:Nat)(S:St):Prop:=
 ∃f b d n a,S.heap.get k=some (.lp f b d n a)∧match e with
  | .normal=>R (.ret (.bool true)) (S.heap.set 24 k (some (.lp .ready none d n a))) nx
  | .ret=>R (.ret (.bool false)) (S.heap.set 24 k (some (.lp .done (some .ret) d n a))) nx
  | .exit i=>R (.ret (.bool false)) (S.heap.set 24 k (some (.lp .done (some (.exit i)) d n a))) nx
  | .goto l=>R (.ret (.bool false)) (S.heap.set 24 k (some (.lp .done (some (.goto l)) d n a))) nx
  | .aU _=>False
theorem DY.nC {k nx:Nat}{args:List AV}{H:aj}{R:AE->aj->Nat->Prop}{sl:List (Nat×AV)}{u:Nat}{g:Operand}{ps:Array Tmp}{aS bd:Code}(hk:H.get k=some (.lp .ready none sl u (.rangeFunc g ps aS bd)))
 (hl:ps.size=args.length)(hp:∀p∈ps.toList,p<u)(A:k+1<2 ^ 24)
 (h:DW P E true nx aS (fun e J O=>e = .normal∧∃q U d,O.heap.get k=some (.lp .ready none q U d)∧DW P E true J bd (ER k R) { O with heap:=O.heap.set 24 k (some (.lp .busy none q U d)) })
   ⟨sI ps.toList args (gF sl),u,H,0⟩):DY P E k args H nx R:=by
 obtain⟨ax,J,O,h1,rfl,q,U,d,X,h2⟩:=h;obtain⟨T,L,S2,h3,st2,pend2,sl2,n2,M,Y,h4⟩:=h2
 
 have m:∀(a:Option Code) (V:AE) (o:an),V = .ret (.bool a.isNone)->o = .lp (if a.isNone then .ready else .done) a sl2 n2 M->
  (∀(e:Exit) (r:Ctx) (y:World),vN r y T e->∀(l:Nat) (N:Ending->World->Prop) (Z:Act) (C:World),(∃v S,(Instr.endRound l a).run P C = .ok v S∧N (.returned v) S)->roundPost P l N e Z C)->
  R V (S2.heap.set 24 k (some o)) L->DY P E k args H nx R:=by
  intro a V o hae ho I hR;refine⟨V,_,L,?_,hR⟩;intro c w vs hw hf hr;obtain⟨B,hB,hBi,j,g',r1,r2,r3,r4,r5,r6⟩:=hw.obj k _ hk
  injection r5 with e1 e2 e3 e4
  subst e2;subst e3;subst e4;refine⟨B,j,hB,r1,by rw[<-hr.1,hl],?_⟩
  have Q:k<nx:=by
   rcases zbI k nx with h|h
   . exact h
   . grind
  have G:(j.params.zip vs.toArray).foldl (fun t (p,v)=>t.setIfInBounds p v) j.tmps=(j.params.toList.zip vs).foldl (fun t (p,v)=>t.setIfInBounds p v) j.tmps:=by
   rw[<-Array.foldl_toList];simp
  rw[G];have hs0:c9 P E c ((⟨sI j.params.toList args (gF sl),u,H,0⟩:St).at_ nx) { tmps:=(j.params.toList.zip vs).foldl (fun t (p,v)=>t.setIfInBounds p v) j.tmps,defers:=[] } w:=by
   refine⟨by rw[Sr];exact r4,?_,trivial,hw,hf⟩
   exact JX hr (fun p hpm=>by grind) (fun t x e=>r6 t x (oI e))
  refine roundIn_of_wpIn (F:=Fence.wide) trivial (wpIn_mono (h1 (some B.b) (fun h=>by cases h) nx (zbm _) c _ w hs0) ?_)
  rintro e a1 w1 ⟨c1,S1',ax1,x1,x2,z,x4,x5,x6⟩
  subst x5;subst x6;cases e<;>first|exact x4.elim|skip
  have K:c1.f k=some B:=(x1.f k Q).trans hB;obtain⟨B',n,hBi',D,g1,s1,s2,s3,s4,s5,s6⟩:=z.bC.obj k _ X;rw[K] at n;cases n;refine⟨_,run_beginRound s1 s2,?_⟩;obtain⟨y1,y2⟩:=z.bC.bV X K A (.loop { D with state := .busy }) (.lp .busy none q U d) (fun C hh W _=>⟨_,g1,hh,rfl,s3,s4,s5,fun t x hm=>by grind⟩)
  have hs1:c9 P E c1 (({ O with heap:=O.heap.set 24 k (some (.lp .busy none q U d)) }:St).at_ J) a1 (w1.putObj B.b (.loop { D with state := .busy })):=
   ⟨z.size,fun t x e=>by obtain⟨v,v1,v2⟩:=z.bu t x e;exact⟨v,v1,y1.rel z.bC v2⟩,y1.defs z.bC z.defers,y2,z.fresh⟩
  refine wpIn_mono (h3 (some B.b) (fun h=>by cases h) nx (by exact x2) c1 a1 _ hs1) ?_
  rintro e a2 y ⟨r,S2',ax',z1,z2,z3,z4,z5,z6⟩
  subst z5;subst z6;have hB2:r.f k=some B:=(z1.f k Q).trans K;obtain⟨B',n,hBi2,rec2,g2,t1,t2,t3,t4,t5,t6⟩:=z3.bC.obj k _ Y;rw[hB2] at n;cases n;refine I e r y z4 B.b _ a2 y ⟨_,_,run_endRound a t1,?_⟩;obtain ⟨u1, u2⟩ := z3.bC.bV Y hB2 A (.loop { rec2 with state := if a.isNone then .ready else .done, pending := a }) o (fun C hh W _=>by
   rw[ho];exact⟨_,g2,hh,rfl,rfl,t4,t5,fun t x hm=>by grind⟩)
  refine⟨r,_,L,V,((x1.toExtM.trans (y1.toM fun _ _=>rfl)).trans z1.toExtM).trans (u1.toM fun _ _=>rfl),u2,?_,z3.fresh,?_,rfl,rfl,rfl⟩
  . exact zbu x2 z2
  . rw[hae];exact .bool _
 cases T with
 | normal=>exact m none _ _ rfl rfl (fun e r y s l N Z C h=>by cases e<;>first|exact s.elim|exact h) h4
 | ret=>exact m (some .ret) _ _ rfl rfl (fun e r y s l N Z C h=>by cases e<;>first|exact s.elim|exact h) h4
 | exit i=>exact m (some (.exit i)) _ _ rfl rfl (fun e r y s l N Z C h=>by cases e<;>first|exact s.elim|(obtain rfl:i=_:=s;exact h)) h4
 | goto i=>exact m (some (.goto i)) _ _ rfl rfl (fun e r y s l N Z C h=>by cases e<;>first|exact s.elim|(obtain rfl:i=_:=s;exact h)) h4
 | aU v=>grind
def N1 (P:Program)(b:Option Code)(Q:Exit->Act->World->Prop)(a:Act)(w:World):Prop:=
 match b with
 | none=>Q .normal a w
 | some c=>c.wpIn (FR none) 0 P Q a w
def EK (nx:Nat)(e:Tr AV)(n:Nat)(K:AX->Nat->St->Prop)(g:AE)(H:aj)(a:Nat):Prop:=
 match g with
 | .ret _ => ∃ f b h j d, H.get nx = some (.lp f b h j d) ∧ f ≠ .busy ∧ match b with
   | none=>K .normal a ⟨e,n,.put nx none H,0⟩
   | some .ret=>K .ret a ⟨e,n,.put nx none H,0⟩
   | some (.exit i)=>K (.exit i) a ⟨e,n,.put nx none H,0⟩
   | some (.goto l)=>K (.goto l) a ⟨e,n,.put nx none H,0⟩
   | _=>False
 | .aU _=>False
theorem DW.XH {g:Operand}{ps:Array Tmp}{aS bd:Code}{K:AX->Nat->St->Prop}{nx:Nat}{S:St}{gf:FuncId}{cap:List AV}{kl:List (Nat×AV)}(hg:S.ev E g = .fn (.func gf) [] cap)(y:nx+1<2 ^ 24)(hkl:∀t x,(t,x)∈kl->S.bu.get t=some x)
 (h:DC P E gf (.fZ nx::cap) (S.heap.set 24 nx (some (.lp .ready none kl S.bL (.rangeFunc g ps aS bd)))) (nx+1) (EK nx S.bu S.bL K)):DW P E false nx (.rangeFunc g ps aS bd) K S:=by
 obtain⟨ae,H',nx',U,hR⟩:=h;cases ae with
 | aU v=>exact hR.elim
 | ret v0=>
 obtain⟨st,A,s2,n2,R,hk,dy,X⟩:=hR;have z:∀(W:AX),(∀(c':Ctx) (O:World) (a':Act) (Q:Exit->Act->World->Prop),(∀e,vN c' O W e->Q e a' O)->N1 P A Q a' O)->K W nx' ⟨S.bu,S.bL,.put nx none H',0⟩->DW P E false nx (.rangeFunc g ps aS bd) K S:=by
  intro W hax X;refine⟨W,nx',⟨S.bu,S.bL,.put nx none H',0⟩,?_,X⟩;intro r hrr m hm c a w G;obtain rfl:=hrr rfl;have V:=G.ev g;rw[show(S.at_ nx).ev E g = .fn (.func gf) [] cap from hg] at V
  generalize hgv:a.eval g=gv at V
  cases V with
  | @fn _ _ _ _ _ vs us h1 h2 hr1 hr2=>
  have hvs:vs=[]:=zbh h1.symm;subst hvs;refine wpIn_rangeFunc ?_;intro fn _
  let D:=w.heap.size
  let o:Loop:={ state := .ready,pending:=none,fn,tmps:=a.tmps,params:=ps,assign:=aS,body:=bd,defers:=D }
  
  have C:aN E.bS c (w.alloc (.deferred (some []))) S.heap∧∀{x v},Rel c w x v->Rel c (w.alloc (.deferred (some []))) x v:=
   G.bC.same (I:=c.aq) (w':=w.alloc (.deferred (some []))) (fun _ h=>h) (fun b B=>by have:=G.bC.bN b B;simp;omega) (fun _ _ h=>h) ag (fun b B=>Below.heap_alloc w _ b B)
  obtain⟨C,F⟩:=C;have hnx:c.f nx=none:=G.fresh nx (zbm _);obtain ⟨e1, e2⟩ := C.vR (k := nx) hnx y (.loop o) (.lp .ready none kl S.bL (.rangeFunc g ps aS bd)) (sz := 0) (n := 0) (fun c' O hh hrel _=>⟨o,g,hh,rfl,rfl,G.size,rfl,fun t x hm=>by
   obtain⟨v,v1,v2⟩:=G.bu t x (hkl t x hm)
   grind⟩)
  have hcb:∀j,nx+1≤j->(c.bind nx ⟨(w.alloc (.deferred (some []))).heap.size,0,0,0⟩).f j=none:=fun j hj=>by
   show(if j=nx then _ else c.f j)=none
   rw[if_neg aa];exact G.fresh j (le_of_succ_le hj)
  have hsz1:(w.alloc (.deferred (some []))).heap.size=w.heap.size+1:=World.size_alloc w _;have hbk:(c.bind nx ⟨(w.alloc (.deferred (some []))).heap.size,0,0,0⟩).f nx=some ⟨w.heap.size+1,0,0,0⟩:=by rw[hsz1];simp[Ctx.bind]
  have hus:aP (c.bind nx ⟨(w.alloc (.deferred (some []))).heap.size,0,0,0⟩) ((w.alloc (.deferred (some []))).alloc (.loop o)) cap us:=
   ⟨h2,fun i x v e e'=>e1.rel C (F (hr2 i x v e e'))⟩
  have H:=U.2 _ _ (.func (.yield (w.heap.size+1)) #[] #[]::us) e2 hcb (.cons (.fZ hbk) hus);have hD:((w.alloc (.deferred (some []))).alloc (.loop o)).heap[w.heap.size]? = some (.deferred (some [])):=(Below.heap_alloc _ _ _ ag).trans (World.alloc_heap_new w _);have hm0:m≤nx:=hm;obtain⟨fng,hfg,hbg,hng⟩:=U.1;refine⟨w.heap.size+1,[{ target := .collected w.heap.size,args:=#[] }],(w.alloc (.deferred (some []))).alloc (.loop o),{ target := .fn (.func gf) us.toArray,args:=#[.func (.yield (w.heap.size+1)) #[] #[]] },(w.alloc (.deferred (some []))).alloc (.loop o),gf,
   #[.func (.yield (w.heap.size+1)) #[] #[]]++us.toArray,(w.alloc (.deferred (some []))).alloc (.loop o),run_enterLoop_outer _ _ _ _ _,?_,fun _ _=>trivial,?_,(fun h=>by cases h),?_⟩
  . simp only [resolve, hgv]
    simp[go_sem]
  . simp[invoke,go_sem,qH U.1]
  . refine Fx.2 ?_
    have harr:#[Value.func (.yield (w.heap.size+1)) #[] #[]]++us.toArray=(Value.func (.yield (w.heap.size+1)) #[] #[]::us).toArray:=ag;rw[harr];refine H.mono ?_
    rintro e w3 ⟨T,L,J,ae3,u,N,hn3,hfr3,her,rfl,rfl,rfl⟩
    cases e<;>first|exact her.elim|skip
    rename_i v3;have hB3:T.f nx=some ⟨w.heap.size+1,0,0,0⟩:=(u.f nx (lt_succ_self _)).trans hbk;obtain⟨B',hB',hBi',q,g3,t1,t2,t3,t4,t5,t6⟩:=N.obj nx _ hk;rw[hB3] at hB';cases hB';have hst3:q.state≠.busy:=by rw[t2];exact dy
    refine⟨q.pending,_,run_endLoop t1 hst3,?_⟩;obtain⟨u1,u2⟩:=N.bV hk hB3 y (.loop { q with state := .exhausted }) (.lp .exhausted A s2 n2 R) (fun O hh hrel _=>⟨_,g3,hh,rfl,t3,t4,t5,fun t x hm=>by grind⟩)
    obtain⟨d1,d2⟩:=u2.drop nx y;have hcg:∀j,(Tr.put nx none L).get j=((L.set 24 nx (some (.lp .exhausted A s2 n2 R))).set 24 nx none).get j:=fun j=>by
     rw[Tr.eQ 24 nx _ _ j y,Tr.eQ 24 nx _ _ j y];rw[show Tr.put nx none L=L.set 24 nx none from rfl,Tr.eQ 24 nx _ _ j y]
     grind
    have hwf:=d2.congr (H' := .put nx none L) hcg;have ext0:ExtM m c w S.heap c (w.alloc (.deferred (some []))) S.heap:=
     ⟨fun _ _=>rfl,fun _ h=>h,rfl,rfl,rfl,ag,fun b B _=>Below.heap_alloc w _ b B,fun b B => .inl B,fun b B => .inl B⟩
    have ext1:=ext0.trans (e1.toM (m:=m) fun k hk'=>by show(if k=nx then _ else c.f k)=c.f k;grind)
    have ext2:=ext1.trans (u.less (by omega:m≤nx+1))
    have ext3:=ext2.trans (u1.toM (m:=m) fun _ _=>rfl)
    have ext4:=(ext3.trans (d1.toM (m:=m) fun _ _=>rfl)).congr (K' := .put nx none L) hcg
    have Z:iN (c.bind nx ⟨(w.alloc (.deferred (some []))).heap.size,0,0,0⟩) ((w.alloc (.deferred (some []))).alloc (.loop o)) ((w.alloc (.deferred (some []))).alloc (.loop o)).heap.size ({ target := .collected w.heap.size,args:=#[] }::a.defers):=
     ⟨w.heap.size,rfl,by grind,fun hi=>Nat.lt_irrefl _ (G.bC.bN _ hi),hD,G.defers.mono (zbm _) fun D' hlt hi hD'=>⟨hi,by
      rw[Below.heap_alloc _ _ _ aa,Below.heap_alloc w _ _ hlt];omega⟩⟩
    have hdef2:=u.defs e2 Z;have Y:=u1.defs N hdef2;have hrelAll:∀{x v},Rel c w x v->Rel T (w3.putObj (w.heap.size+1) (.loop { q with state := .exhausted })) x v:=fun {x v} hr=>by
     have hr1:=e1.rel C (F hr);have hle3:(c.bind nx ⟨(w.alloc (.deferred (some []))).heap.size,0,0,0⟩).le T:=⟨fun k p e=>by
      by_cases hk':k<nx+1
      . rw[u.f k hk'];exact e
      grind,u.aq⟩
     have hr2':Rel T w3 x v:=hr1.mono hle3 (fun b B=>u.other b (e2.bN b B) (e2.kQ B))
     exact u1.rel N hr2'
    have hsimF:c9 P E T ((⟨S.bu,S.bL,.put nx none L,0⟩:St).at_ J) { a with defers:=[{ target := .collected w.heap.size,args:=#[] }]++a.defers } (w3.putObj (w.heap.size+1) (.loop { q with state := .exhausted })):=
     ⟨G.size,fun t x e=>by obtain⟨v,v1,v2⟩:=G.bu t x e;grind,Y,hwf,hfr3⟩
    have hQ:∀e,vN T (w3.putObj (w.heap.size+1) (.loop { q with state := .exhausted })) W e->QS P E m c a w (S.at_ nx) (fun a s=>a=W∧s=(⟨S.bu,S.bL,.put nx none L,0⟩:St).at_ J) e { a with defers:=[{ target := .collected w.heap.size,args:=#[] }]++a.defers } (w3.putObj (w.heap.size+1) (.loop { q with state := .exhausted })):=fun e he=>
     ⟨T,(⟨S.bu,S.bL,.put nx none L,0⟩:St).at_ J,W,⟨ext4,[{ target := .collected w.heap.size,args:=#[] }],rfl,fun d hd=>⟨w.heap.size,by grind,zbm _⟩⟩,(show nx≤J from le_of_succ_le hn3),hsimF,he,rfl,rfl⟩
    have hp:=hax T _ _ _ hQ;rw[<-t3] at hp
    assumption
 cases A with
 | none=>exact z .normal (fun c' O a' Q h=>h .normal trivial) X
 | some cd =>
   cases cd with
   | ret=>exact z .ret (fun c' O a' Q h=>wpIn_ret (h .ret trivial)) X
   | exit i=>exact z (.exit i) (fun c' O a' Q h=>wpIn_exit (h (.exit i) rfl)) X
   | goto l=>exact z (.goto l) (fun c' O a' Q h=>wpIn_goto (h (.goto l) rfl)) X
   | _=>exact X.elim
def yo:List Tmp->List AV->Tr AV->(Tr AV->Prop)->Prop
 | p::b,x::d,t,k=>yo b d (.put p (some x) t) k
 | _,_,t,k=>k t
theorem JW:∀{ps:List Tmp} {xs:List AV} {t:Tr AV} {k:Tr AV->Prop},yo ps xs t k->k (sI ps xs t)
 | [],xs,t,k,h=>by assumption
 | _::_,[],_,_,h=>h
 | p::ps,x::xs,t,k,h=>JW (xs:=xs) h
def NL (k:Nat)(R:AE->aj->Nat->Prop)(e:AX)(nx:Nat)(S:St):Prop:=
 match S with
 | ⟨_, _, H, _⟩ => dO k (fun o => match o with
   | .lp _ _ b n a => match e with
     | .normal=>R (.ret (.bool true)) (.put k (some (.lp .ready none b n a)) H) nx
     | .ret=>R (.ret (.bool false)) (.put k (some (.lp .done (some .ret) b n a)) H) nx
     | .exit i=>R (.ret (.bool false)) (.put k (some (.lp .done (some (.exit i)) b n a)) H) nx
     | .goto l=>R (.ret (.bool false)) (.put k (some (.lp .done (some (.goto l)) b n a)) H) nx
     | .aU _=>False
   | _=>False) H
theorem zaY {k:Nat}{R:AE->aj->Nat->Prop}{e:AX}{nx:Nat}{S:St}(h:NL k R e nx S):ER k R e nx S:=by
 obtain⟨o,g,h⟩:=lF h;cases o with
 | lp f a d i b=>exact⟨f,a,d,i,b,g,by assumption⟩
 | _=>grind
def Et (P:Program)(E:Env)(k:Nat)(R:AE->aj->Nat->Prop)(b:Code)(e:AX)(nx:Nat)(S:St):Prop:=
 match e with
 | .normal => match S with
   | ⟨d, n, H, _⟩ => dO k (fun o => match o with
     | .lp .ready none f g a=>fO P E true b (NL k R) nx ⟨d,n,.put k (some (.lp .busy none f g a)) H,0⟩
     | _=>False) H
 | _=>False
def NM (P:Program)(E:Env)(k:Nat)(args:List AV)(H:aj)(nx:Nat)(R:AE->aj->Nat->Prop):Prop:=
 dO k (fun o=>match o with
  | .lp .ready none e a (.rangeFunc _ b f g)=>cond (beq b.size args.length && b.toList.all (fun p=>blt p a) && ble (k+2) 16777216) (mi e fun T=>yo b.toList args T fun d=>fO P E true f (Et P E k R g) nx ⟨d,a,H,0⟩) False
  | _=>False) H
theorem DY.walk (m:bZ P E)(a:P.follows .mixedOrders=true){k nx:Nat}{args:List AV}{H:aj}{R:AE->aj->Nat->Prop}(h:NM P E k args H nx R):DY P E k args H nx R:=by
 unfold NM at h;obtain⟨o,r,h⟩:=lF h;split at h<;>first|exact h.elim|skip
 rename_i C d g i n q;cases f:beq i.size args.length && i.toList.all (fun p=>blt p d) && ble (k+2) 16777216 with
 | false=>grind
 | true =>
   rw[f] at h;simp only[zbe,zbr] at f;have h:=JW (nB (k:=fun T=>yo i.toList args T fun x=>fO P E true n (Et P E k R q) nx ⟨x,d,H,0⟩) h)
   refine DY.nC r (zbl f.1.1) (fun p B=>by simp_all) (by have:=zbb f.2;omega) ((DW.gr m a n h).mono fun e t u b=>?_)
   cases e<;>first|exact b.elim|skip
   obtain⟨v,D,F,G⟩:=u;simp only[Et] at b;obtain⟨I,l,b⟩:=lF b;split at b<;>first|exact b.elim|skip
   rename_i s z y;exact⟨rfl,s,z,y,l,(DW.gr m a q b).mono fun e A J j=>zaY j⟩
def J8 (nx:Nat)(d:Tr AV)(n:Nat)(K:AX->Nat->St->Prop)(e:AE)(H:aj)(a:Nat):Prop:=
 match e with
 | .ret _ => dO nx (fun o => match o with
   | .lp f b _ _ _ => match f with
     | .busy=>False
     | _ => match b with
       | none=>K .normal a ⟨d,n,.put nx none H,0⟩
       | some .ret=>K .ret a ⟨d,n,.put nx none H,0⟩
       | some (.exit i)=>K (.exit i) a ⟨d,n,.put nx none H,0⟩
       | some (.goto l)=>K (.goto l) a ⟨d,n,.put nx none H,0⟩
       | _=>False
   | _=>False) H
 | .aU _=>False
theorem XQ {nx:Nat}{e:Tr AV}{n:Nat}{K:AX->Nat->St->Prop}{d:AE}{H:aj}{b:Nat}(h:J8 nx e n K d H b):EK nx e n K d H b:=by
 cases d with
 | aU v=>exact h
 | ret v =>
   obtain⟨o,i,h⟩:=lF h;cases o with
   | lp k a l m f =>
     refine⟨k,a,l,m,f,i,?_,?_⟩
     . grind
     grind
   | _=>grind
theorem DW.range (a:List Nat){g:Operand}{ps:Array Tmp}{f k:Code}{K:AX->Nat->St->Prop}{nx:Nat}{S:St}
 (h:match S with
   | ⟨b, n, H, _⟩ => match St.ev E ⟨b, n, H, 0⟩ g with
     | .fn (.func i) [] cap=>cond (ble (nx+2) 16777216) (kN ⟨b,n,H,0⟩ a fun e=>fL AV.f1 (.fZ nx::cap) fun args=>DC P E i args (.put nx (some (.lp .ready none e n (.rangeFunc g ps f k))) H) (nx+1) (J8 nx b n K)) False
     | _=>False):DW P E false nx (.rangeFunc g ps f k) K S:=by
 obtain⟨b,n,H,x⟩:=S
 dsimp at h
 split at h
 . rename_i i cap l
   cases j:ble (nx+2) 16777216 with
   | false=>grind
   | true =>
     rw[j] at h;obtain⟨e,h,d⟩:=Cn h;have h:=gp (fun _ _ h=>AV.gm h) h
     exact DW.XH l (by have:=zbb j;omega) d (DC.mono h fun p H o m=>XQ m)
 grind
end
end Go.Ago
end
section
namespace Go.Ago
open List Nat
abbrev bY:Nat:=1048576
def aW (A j:Nat):Nat:=A+j
section
variable {A A' j i k:Nat} {X Y:Prop}
theorem Vo (h:blt k A=true)(y:Y):cond (beq k (aW A j)) X Y:=by
 have h:=zbb h;have:beq k (aW A j)=false:=by
  cases e:beq k _ with
  | false=>rfl
  | true=>have:=zbl e;unfold aW at *;omega
 grind
theorem xj {K:an->Prop}{g:Nat->Option an}{t:aj}{o:an}(c:j<bY)(h:g j=some o)(x:K o):dO (aW A j) K (.fx A bY g t):=by
 have b:ble A (aW A j)=true:=zbs (by unfold aW;omega)
 have a:blt (aW A j) (A+bY)=true:=zbs (by unfold aW;omega)
 simp[dO,b,a];rw[show aW A j - A=j by unfold aW;omega,h]
 exact x
end
end Go.Ago
end
namespace Go.Ago
open List Nat
theorem DC.bump {P:Program}{E:Env}{g:FuncId}{args:List AV}{H:aj}{nx m:Nat}{R:AE->aj->Nat->Prop}(a:ble nx m=true)(h:DC P E g args H m R):DC P E g args H nx R:=by
 obtain⟨i,f,b,⟨j,l⟩,n⟩:=h;have a:=zbb a;refine⟨i,f,b,⟨j,fun c w F p q r=>?_⟩,n⟩
 refine(l c w _ p (fun k s=>q k (zbu a s)) r).mono fun e D u=>?_
 obtain⟨v,o,y,t,A,x,z,C,B,d⟩:=u;exact⟨v,o,y,t,A.less a,x,zbu a z,C,B,d⟩
theorem ExtM.from_ {m:Nat}{c c':Ctx}{w w':World}{H H' K:aj}(h:ExtM m c w H c' w' H')(d:∀j,K.get j=H.get j):ExtM m c w K c' w' H':=
 ⟨h.f,h.aq,h.os,h.tape,h.output,h.size,fun b a g=>h.other b a (fun e=>g (e.congr d)),fun b a=>(h.ez b a).imp id (Or.imp (Own.congr d) id),fun b a=>(h.own b a).imp (Own.congr d) id⟩
theorem DC.heap {P:Program}{E:Env}{g:FuncId}{args:List AV}{H K:aj}{nx:Nat}{R:AE->aj->Nat->Prop}(b:∀j,H.get j=K.get j)(h:DC P E g args K nx R):DC P E g args H nx R:=by
 obtain⟨i,f,a,⟨k,l⟩,m⟩:=h;refine⟨i,f,a,⟨k,fun c w C o p q=>?_⟩,m⟩
 refine(l c w _ (o.congr fun j=>(b j).symm) p q).mono fun e B s=>?_
 obtain⟨t,n,v,r,y,u,x,A,z,d⟩:=s;exact⟨t,n,v,r,y.from_ b,u,x,A,z,d⟩
def Wh (K:AX->St->Prop):AX->St->Prop
 | .goto _,_=>False
 | e,S=>K e S
theorem SW.scope {P:Program}{E:Env}{code:Code}{K:AX->St->Prop}{S:St}(h:SW P E false code (Wh K) S):SW P E false (.scope code) K S:=by
 intro r j m u c a w k;obtain rfl:=j rfl;have f:=h none (ag) m u c a w k;have v:FR _=Fence.wide:=rfl;rw[v] at f ⊢;rw[wpIn_wide] at *;refine wp_scope_straight (wp_mono f fun e x y o=>?_)
 obtain⟨p,q,d,n,t,s,g,b⟩:=o;cases e with
 | goto l =>
   cases d<;>first|exact b.elim|exact g.elim
 | _=>cases d<;>first|exact b.elim|exact⟨p,q,_,n,t,s,g,b⟩
def I4 (K:AX->Nat->St->Prop)(e:AX)(n:Nat)(S:St):Prop:=
 match e with
 | .goto _=>False
 | e=>K e n S
theorem DW.scope {P:Program}{E:Env}(j:bZ P E)(b:P.follows .mixedOrders=true){code:Code}{K:AX->Nat->St->Prop}{nx:Nat}{S:St}(h:fO P E false code (I4 K) nx S):DW P E false nx (.scope code) K S:=by
 obtain⟨e,c,g,i,d⟩:=DW.gr j b _ h;refine⟨e,c,g,SW.scope (i.mono fun a s f=>?_),?_⟩
 . obtain ⟨rfl, rfl⟩ := f
   cases a<;>first|exact d.elim|exact⟨rfl,rfl⟩
 cases e<;>first|exact d.elim|exact d
end Go.Ago
section
namespace Go.Ago
open List Nat
def eC (m A:Nat)(a:Nat->Nat)(l:List (Nat×Nat))(k:Nat):Nat:=bif blt k m then k else bif ble A k && blt k (A+bY) then a (k - A) else look l k
def od (ρ:Nat->Nat)(b:Nat)(H:aj):List (Nat×an)->Prop
 | []=>True
 | (k,o)::l=>(blt k b=true∧dO (ρ k) (fun x=>x=o.cp ρ∧o.lt b) H)∧od ρ b H l
theorem FN {ρ:Nat->Nat}{b:Nat}{H:aj}:∀{l:List (Nat×an)},od ρ b H l->∀k o,(k,o)∈l->k<b∧H.get (ρ k)=some (o.cp ρ)∧o.lt b
 | (k, o) :: l, h, d, g, c => by
   rcases zbB.1 c with e|c
   . obtain ⟨i, f⟩ := h.1
     obtain⟨x,j,rfl,m⟩:=lF f
     simp_all
   exact FN h.2 d g c
structure df (m nl A:Nat)(src:Nat->Nat)(l:List (Nat×Nat))(S:St)(sl:List (Nat×AV))(hl:List (Nat×an))(g:Nat->Option an):Prop where
 VZ:m≤nl
 lo:m≤A∨(A+bY≤m∧∀j,src j=aW A j)
 hi:A+bY≤nl
 bu:mW (eC m A src l) nl S sl
 heap:od (eC m A src l) nl S.heap hl
 inj:pL (eC m A src l) (hl.map (·.1))=true
 rows:∀j o,j<bY->g j=some o->dO (src j) (fun x=>x=o.cp (eC m A src l)∧o.lt nl) S.heap
 XZ:∀i j o o',i<bY->j<bY->g i=some o->g j=some o'->src i=src j->i=j
 apart:∀j o,j<bY->g j=some o->∀p∈hl,src j≠eC m A src l p.1
section
variable {P:Program} {E:Env} {rr:Bool}
theorem df.wk {m D nx A:Nat}{f:Nat->Nat}{l:List (Nat×Nat)}{S:St}{F:List (Nat×AV)}{u:List (Nat×an)}{g:Nat->Option an}(h:df m D A f l S F u g) :
 dq P E m (S.at_ nx) ((⟨gF F,S.bL,.fx A bY g (gT u),0⟩:St).at_ D):=by
 have J:m≤D:=h.VZ;have b:∀j,j<bY->eC m A f l (A+j)=f j:=by
  intro j n;rcases h.lo with C|⟨C,r⟩
  case inr=>
   rw[r];unfold eC;rw[show blt (A+j) m=true from zbs aa]
   rfl
  have H:blt (A+j) m=false:=by
   cases e:blt (A+j) m with
   | false=>rfl
   | true=>have:=zbb e;omega
  have z:(ble A (A+j) && blt (A+j) (A+bY))=true:=by
   rw[zbs (zco _ _),show blt (A+j) (A+bY)=true from zbs aa];rfl
  unfold eC;rw[H,z];simp
 have d:∀k o,(Tr.fx A bY g (gT u)).get k=some o->(∃j,k=A+j∧j<bY∧g j=some o)∨((k,o)∈u):=by
  intro k o e;rw[Tr.get] at e;cases q:ble A k && blt k (A+bY) with
  | true =>
    rw[q] at e;simp only[zbe] at q;have H:=zbb q.1;have z:=zbb q.2
    grind
  | false=>rw[q] at e;exact .inr (nA e)
 refine dq.cp (eC m A f l) (fun k I=>?_) J rfl (fun t y e=>AT h.bu t y (oI e)) (fun k o e=>?_) (fun k G o B e L p=>?_)
 . unfold eC
   rw[show blt k m=true from zbs I]
   rfl
 . rcases d k o e with ⟨j, rfl, n, v⟩ | a
   . obtain ⟨x, M, rfl, z⟩ := lF (h.rows j o n v)
     exact⟨by have:=h.hi;omega,by grind,z⟩
   . exact FN h.heap k o a
 . rcases d k o e with ⟨j, rfl, n, v⟩ | a <;> rcases d G B L with ⟨w, rfl, i, s⟩ | c
   . rw [b j n, b w i] at p
     rw[h.XZ j w o B n i v s p]
   . rw [b j n] at p
     exact absurd p (h.apart j o n v _ c)
   . rw [b w i] at p
     exact absurd p.symm (h.apart w B i s _ a)
   . exact AS h.inj k (zbG.2 ⟨_,a,rfl⟩) G (zbG.2 ⟨_,c,rfl⟩) p
theorem DW.jQ (B:bZ P E)(i:P.follows .mixedOrders=true){α:Type}(k q:List Nat)(n A:Nat)(a:α->List (Nat×AV))(o:α->List (Nat×an))(g:α->Nat->Option an)(b:List (Nat×lX))(t:α->Nat)(u:α)
 {d:Code}{K:AX->Nat->St->Prop}{nx:Nat}{S:St}
 (h:lH S.heap q fun l=>kN S k fun j=>(∃c,df nx (nx+n) A c (qn S b) S (a u++j) (o u++l) (g u)) ∧
   ∀ x, iH (a x) fun y => er y j fun z => mi z fun r => er (o x) l fun s => oH s fun G => fO P E rr d (fun e f S'=>match e with
    | .normal=>∃m c,df nx (nx+n) A c (qn S' b) S' (a m++j) (o m++l) (g m)∧S'.bL=S.bL∧t m<t x
    | e=>K e f S') (nx+n) ⟨r,S.bL,.fx A bY (g x) G,0⟩):DW P E rr nx (.loop d) K S:=by
 obtain⟨l,h⟩:=ns h;obtain⟨j,⟨c,C⟩,h⟩:=qi h;have D:nx≤nx+n:=zco _ _;refine DW.loop (fun x=>⟨gF (a x++j),S.bL,.fx A _ _ (gT (o x++l)),0⟩) _ t _ D C.wk fun x=>?_
 have:=qt (eH (nB (eH (jg (h x)))));refine(DW.gr B i _ this).mono fun e f S' w=>?_
 cases e with
 | normal =>
   obtain⟨m,c,H,J,I⟩:=w;have:=H.wk (P:=P) (E:=E) (nx:=f)
   grind
 | _=>exact w
end
end Go.Ago
end
