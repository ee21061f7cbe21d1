/-
  Part A14: lemmas, each with its own conditions.
-/
import Derived.LoopN
import Derived.KernelRfl
import Derived.Test.YthaolifcglpkdaaGreatDoorProg
import Derived.Test.YthaolifcglpkdaaGreatDoorA13
set_option maxRecDepth 100000
set_option maxHeartbeats 0
set_option linter.all false
section
namespace Go.Ago
open List Nat
def AV.f3 (v:AV)(k:AV->Prop):Prop:=
 match v with
 | .ao b=>fL AV.f1 b fun a=>k (.ao a)
 | v=>v.f1 k
theorem AV.kG {v:AV}{k:AV->Prop}(h:v.f3 k):k v:=by
 cases v<;>first|exact gj (fun _ _ h=>AV.gi h) h|exact AV.gi h
def qF (E:Env)(b:Func)(Q:AE->Prop):AX->St->Prop
 | .normal, S | .ret, S => match ij E b S with
   | some x => match snap S.heap 20 x with
     | some y=>y.f3 fun a=>Q (.ret a)
     | none=>False
   | none=>False
 | .aR v, S => match snap S.heap 20 v with
   | some y=>y.f3 fun a=>Q (.aR a)
   | none=>False
 | _,_=>False
theorem JY {E:Env}{d:Func}{Q:AE->Prop}{e:AX}{S:St}(h:qF E d Q e S):je E d Q e S:=by
 cases e with
 | normal =>
   simp only[qF] at h;simp only[je];split at h
   . split at h
     . simp_all only;exact AV.kG (k:=fun y=>Q (.ret y)) h
     grind
   grind
 | ret =>
   simp only[qF] at h;simp only[je];split at h
   . split at h
     . simp_all only;exact AV.kG (k:=fun y=>Q (.ret y)) h
     grind
   grind
 | aR v =>
   simp only[qF] at h;simp only[je];split at h
   . simp_all only;exact AV.kG (k:=fun y=>Q (.aR y)) h
   grind
 | exit i=>exact h
 | goto i=>exact h
section
variable {P:Program} {E:Env} {rr:Bool}
theorem DP.walk {f:FuncId}{a:Func}{code:Code}{args:List AV}{Q:AE->Prop}(c:bW P E)(b:P.follows .mixedOrders=true)(k:P.funcs[f]? = some a)(i:a.body=some code)(j:a.name ≠ "runtime.NumGoroutine")
 (d:ble args.length a.ntmps=true)(l:blt a.ntmps 1000000=true)(h:fL AV.f1 args fun args'=>nk args' 0 .nil fun m=>fN a.ntmps fun n=>fI P E false code (fun e _ S=>qF E a Q e S) 0 ⟨m,n,.nil,0⟩):DP P E f args Q:=by
 have o:=le_of_ble_eq_true d;have p:=by simpa using l
 refine DP.nD c k i j aa ?_;rw[uD d];exact(DW.gp c b _ (rO (sa (gj (fun _ _ h=>AV.gi h) h)))).mono fun e _ s g=>JY g
def dt (P:Program)(E:Env)(m:Nat)(S S':St):Prop:=
 ∀c a w,c_ P E c S a w->∃d,(∀k,k<m->d.f k=c.f k)∧(∀b,c.au b->d.au b)∧(∀b,d.au b->c.au b∨Own c S.heap b)∧(∀b,Own d S'.heap b->Own c S.heap b)∧c_ P E d S' a w
theorem SW.xu {α:Type}(L:α->St)(A:α->Nat){o:Code}{K:AX->St->Prop}{S:St}(Q:α)(h0:dt P E S.next S (L Q))(R:∀x,S.next≤(L x).next)
 (h : ∀ x, SW P E rr o (fun e S'=>match e with
   | .normal=>∃B,dt P E S.next S' (L B)∧A B<A x
   | e=>K e S') (L x)):SW P E rr (.loop o) K S:=by
 intro r hr m X c a w W;have f:∀{s:Ctx} {C:St} {q:Act} {p:World} {x:α},ek m c a w S.heap s q p C.heap->c_ P E s C q p->dt P E S.next C (L x)->∃g,ek m c a w S.heap g q p (L x).heap∧c_ P E g (L x) q p:=by
  intro s C q p x J y H;obtain⟨g,G,I,Y,e4,e5⟩:=H s q p y;exact⟨g,J.jg ⟨fun k hk=>G k aa,I,rfl,rfl,rfl,Nat.le_refl _,fun _ _ _=>rfl,fun b M=>(Y b M).imp id .inl,fun b M => .inl (e4 b M)⟩ rfl,e5⟩
 refine wpIn_loop_ghost (fun n O N=>∃x g,A x=n∧ek m c a w S.heap g O N (L x).heap∧c_ P E g (L x) O N) (A Q) ?_ ?_
 . obtain ⟨g, y, h2⟩ := f (ek.refl m c a w _) W h0
   grind
 . rintro n q p ⟨x, s, rfl, J, y⟩
   refine wpIn_mono (h x r hr m (Nat.le_trans X (R x)) s q p y) ?_
   rintro e a2 w2 ⟨D,z,Z,g1,g2,u,j,t⟩
   have d:=J.trans g1;have l:=Nat.le_trans (R x) g2;cases Z with
   | normal =>
     cases e<;>first|exact j.elim|skip
     obtain⟨B,k1,k2⟩:=t;obtain⟨g,G,I⟩:=f d u k1;exact⟨_,k2,B,g,rfl,G,I⟩
   | exit i=>cases e<;>first|exact j.elim|exact⟨D,z,_,d,l,u,j,t⟩
   | goto i=>cases e<;>first|exact j.elim|exact⟨D,z,_,d,l,u,j,t⟩
   | ret=>cases e<;>first|exact j.elim|exact⟨D,z,_,d,l,u,j,t⟩
   | aR v=>cases e<;>first|exact j.elim|exact⟨D,z,_,d,l,u,j,t⟩
theorem DW.loop {α:Type}(L:α->St)(d:Nat)(f:α->Nat){b:Code}{K:AX->Nat->St->Prop}{nx:Nat}{S:St}(r:α)(C:nx≤d)(h0:dt P E nx (S.at_ nx) ((L r).at_ d))
 (h : ∀ x, DW P E rr d b (fun e a S'=>match e with
   | .normal=>∃k,dt P E nx (S'.at_ a) ((L k).at_ d)∧f k<f x
   | e=>K e a S') (L x)):DW P E rr nx (.loop b) K S:=by
 
 have m : ∀ n x, f x = n->∃ g a S', K g a S' ∧ ∃ T : α->Prop, T x ∧ ∀ y, T y->SW P E rr b (fun e s=>match e with
  | .normal=>∃j,T j∧dt P E nx s ((L j).at_ d)∧f j<f y
  | e=>e=g∧s=S'.at_ a) ((L y).at_ d):=by
  intro n
  induction n using Nat.strongRecOn with
  | ind n B =>
    intro x t;obtain⟨g,a,S',D,l⟩:=h x;cases g with
    | normal =>
      obtain⟨k,k1,k2⟩:=l;obtain⟨p,q,F,G,T,g2,g3⟩:=B (f k) aa k rfl;refine⟨p,q,F,G,fun y=>y=x∨T y,.inl rfl,?_⟩
      rintro y (rfl|hy)
      . refine D.mono fun e s o => ?_
        grind
      . refine (g3 y hy).mono fun e s o => ?_
        grind
    | exit i=>exact⟨_,a,S',l,fun y=>y=x,rfl,by grind⟩
    | goto i=>exact⟨_,a,S',l,fun y=>y=x,rfl,by grind⟩
    | ret=>exact⟨_,a,S',l,fun y=>y=x,rfl,by grind⟩
    | aR v=>exact⟨_,a,S',l,fun y=>y=x,rfl,by grind⟩
 obtain⟨g,a,S',hK,T,hT,hS⟩:=m _ r rfl;refine⟨g,a,S',?_,hK⟩;refine SW.xu (α:={ x // T x }) (fun x=>(L x.1).at_ d) (fun x=>f x.1) ⟨r,hT⟩ h0 (fun x=>C) ?_
 rintro⟨x,t⟩
 refine(hS x t).mono fun e s o=>?_
 cases e with
 | normal =>
   obtain⟨j,e1,e2,A⟩:=o;exact⟨⟨j,e1⟩,e2,A⟩
 | _=>exact o
def tQ (P:Program)(E:Env)(b:Bool)(a:Code)(K:AX->St->Prop):Nat->St->Prop
 | 0,_=>False
 | n + 1, S => SW P E b a (fun e c => match e with
   | .normal=>tQ P E b a K n c
   | e=>K e c) S
theorem SW.rounds {b:Code}{K:AX->St->Prop}(n:Nat){S:St}(h:tQ P E rr b K n S):SW P E rr (.loop b) K S:=by
 intro r y m L c a w J;refine wpIn_loop_rounds n ?_;have z:∀(n:Nat) (j:St) (t:Ctx) (l:Act) (p:World),ek m c a w S.heap t l p j.heap->S.next≤j.next->c_ P E t j l p->tQ P E rr b K n j->
  Code.roundsIn (FR r) 0 P b (QS P E m c a w S K) n l p:=by
  intro n
  induction n with
  | zero=>intro j t l p _ _ _ h;exact h.elim
  | succ n O =>
    intro j t l p M C x h;refine wpIn_mono (h r y m (Nat.le_trans L C) _ _ _ x) ?_
    rintro e U T ⟨s,q,N,R,I,k,g,o⟩
    have d:=M.trans R;have f:=Nat.le_trans C I;cases N with
    | normal =>
      cases e<;>first|exact g.elim|skip
      exact O _ _ _ _ d f k o
    | exit i=>cases e<;>first|exact g.elim|exact⟨s,q,_,d,f,k,g,o⟩
    | goto i=>cases e<;>first|exact g.elim|exact⟨s,q,_,d,f,k,g,o⟩
    | ret=>cases e<;>first|exact g.elim|exact⟨s,q,_,d,f,k,g,o⟩
    | aR v=>cases e<;>first|exact g.elim|exact⟨s,q,_,d,f,k,g,o⟩
 exact z n S c a w (ek.refl m c a w _) (ag) J h
def AT (P:Program)(E:Env)(f:Bool)(a:Code)(K:AX->Nat->St->Prop):Nat->Nat->St->Prop
 | 0,_,_=>False
 | n + 1, g, S => fI P E f a (fun e b d => match e with
   | .normal=>AT P E f a K n b d
   | e=>K e b d) g S
theorem DW.rounds (y:bW P E)(j:P.follows .mixedOrders=true){b:Code}{K:AX->Nat->St->Prop}(n:Nat){nx:Nat}{S:St}(h:AT P E rr b K n nx S):DW P E rr nx (.loop b) K S:=by
 have q:∀(n nx:Nat) (S:St),AT P E rr b K n nx S->∃g a c,tQ P E rr b (po g a c) n (S.at_ nx)∧K g a c:=by
  intro n
  induction n with
  | zero=>intro nx S h;exact h.elim
  | succ n A =>
    intro nx S h;obtain⟨g,a,c,d,f⟩:=DW.gp y j b h;cases g with
    | normal =>
      obtain⟨p,o,B,D,z⟩:=A a c f;exact⟨p,o,B,d.mono fun e s k=>by grind,z⟩
    | exit i=>exact⟨_,a,c,d.mono fun e s k=>by grind,f⟩
    | goto i=>exact⟨_,a,c,d.mono fun e s k=>by grind,f⟩
    | ret=>exact⟨_,a,c,d.mono fun e s k=>by grind,f⟩
    | aR v=>exact⟨_,a,c,d.mono fun e s k=>by grind,f⟩
 obtain⟨g,a,c,d,f⟩:=q n nx S h;exact⟨g,a,c,SW.rounds n d,f⟩
end
end Go.Ago
end
section
namespace Go.Ago
open List Nat
def AV.r0 (ρ:Nat->Nat):AV->AV
 | .ptr k i o => .ptr (ρ k) i o
 | .az k i n s => .az (ρ k) i n s
 | .fT k => .fT (ρ k)
 | .cY k => .cY (ρ k)
 | v=>v
def AV.ra (ρ:Nat->Nat):AV->AV
 | .agg a => .agg (a.map (AV.r0 ρ))
 | v=>v.r0 ρ
def AV.r1 (ρ:Nat->Nat):AV->AV
 | .cG t v => .cG t (v.ra ρ)
 | .fn f b a => .fn f (b.map (AV.ra ρ)) (a.map (AV.ra ρ))
 | v=>v.ra ρ
def AV.r2 (ρ:Nat->Nat):AV->AV
 | .ao a => .ao (a.map (AV.r1 ρ))
 | v=>v.r1 ρ
def AV.l0 (n:Nat):AV->Bool
 | .ptr k _ _=>blt k n
 | .az k _ _ _=>blt k n
 | .fT k=>blt k n
 | .cY k=>blt k n
 | .agg _=>false
 | .cG _ _=>false
 | .fn _ b a=>b.isEmpty && a.isEmpty
 | .ao _=>false
 | _=>true
def AV.la (n:Nat):AV->Bool
 | .agg a=>a.all (AV.l0 n)
 | v=>v.l0 n
def AV.l1 (n:Nat):AV->Bool
 | .cG _ v=>v.la n
 | .fn _ b a=>b.all (AV.la n) && a.all (AV.la n)
 | v=>v.la n
def AV.l2 (n:Nat):AV->Bool
 | .ao a=>a.all (AV.l1 n)
 | v=>v.l1 n
def an.cp (ρ:Nat->Nat):an->an
 | .arr h a => .arr h (a.map (List.map (AV.r1 ρ)))
 | .dG s e => .dG s e
 | .lp g b i f c => .lp g b (i.map fun p=>(p.1,p.2.r2 ρ)) f c
 | .mp a => .mp (a.map fun p=>(p.1,p.2.r1 ρ))
 | .cm d a => .cm d a
def an.lt (n:Nat):an->Prop
 | .arr _ a=>(a.all fun e=>e.all (AV.l1 n))=true
 | .dG _ _=>True
 | .lp _ _ b _ _=>(b.all fun p=>p.2.l2 n)=true
 | .mp a=>(a.all fun p=>p.2.l1 n)=true
 | .cm _ _=>True
section
variable {c c':Ctx} {w:World} {ρ:Nat->Nat} {n:Nat}
theorem CV (hi:c'.au=c.au)(D:∀k,k<n->c'.f k=c.f (ρ k)){y:AV}{v:Value}(d:y.l0 n=true)(h:Rel c w (y.r0 ρ) v):Rel c' w y v:=by
 have hb:c'.bare=c.bare:=by unfold Ctx.bare;rw[hi]
 cases y with
 | any=>exact .any v
 | bool b=>cases h;exact .bool b
 | int k m=>cases h;exact .int k m
 | str l=>cases h;exact .str l
 | dF=>cases h;exact .dF
 | ptr k i o =>
   have q:k<n:=by simpa[AV.l0] using d
   cases h with
   | ptr h=>exact .ptr ((D k q).trans h)
 | bq cs =>
   cases h with
   | bq r g p u=>exact .bq aY g p (fun i x v e e'=>by grind)
 | ah=>cases h;exact .ah
 | cW =>
   cases h with
   | cW a=>exact .cW a
   | iB=>exact .iB
 | az k i m s =>
   have q:k<n:=by simpa[AV.l0] using d
   cases h with
   | az r g p u C=>exact .az ((D k q).trans r) g p u C
 | ak s es =>
   cases h with
   | ak E r g p u C=>exact .ak E r aY p u (fun i j e x e1 e2=>by grind)
   | fk=>exact .fk s
 | fO=>cases h;exact .fO
 | fT k =>
   have q:k<n:=by simpa[AV.l0] using d
   cases h with
   | fT h=>exact .fT ((D k q).trans h)
 | cY k =>
   have q:k<n:=by simpa[AV.l0] using d
   cases h with
   | cY h=>exact .cY ((D k q).trans h)
 | cK es =>
   cases h with
   | cK f r g p u C h6 h7=>exact .cK f aY g p u C h6 (fun k x e=>by grind)
 | fn f xs ys =>
   simp only[AV.l0,Bool.and_eq_true,isEmpty_iff] at d;obtain⟨rfl,rfl⟩:=d;cases h with
   | @fn _ _ _ _ _ E us r g p u =>
     have e1:E=[]:=eq_nil_of_length_eq_zero r.symm;have e2:us=[]:=eq_nil_of_length_eq_zero g.symm;subst e1;subst e2;exact .fn f rfl rfl ag ag
 | cZ=>cases h;exact .cZ
 | cG t v=>cases d
 | eH=>cases h;exact .eH
 | agg cs=>cases d
 | ao E=>cases d
theorem qD {f:AV->AV}{l:AV->Bool}(b:∀y v,l y=true->Rel c w (f y) v->Rel c' w y v){ys:List AV}{vs:List Value}(d:ys.all l=true)(a:(ys.map f).length=vs.length)
 (h:∀(i:Nat) x v,(ys.map f)[i]? = some x->vs[i]? = some v->Rel c w x v):ys.length=vs.length∧∀(i:Nat) x v,ys[i]? = some x->vs[i]? = some v->Rel c' w x v:=by
 grind
theorem yf (hi:c'.au=c.au)(e:∀k,k<n->c'.f k=c.f (ρ k)){y:AV}{v:Value}(d:y.la n=true)(h:Rel c w (y.ra ρ) v):Rel c' w y v:=by
 by_cases j:∃g,y = .agg g
 . obtain ⟨g, rfl⟩ := j
   cases h with
   | agg m o =>
     obtain⟨p,q⟩:=qD (fun y v a b=>CV hi e a b) d m o
     exact .agg p q
 . have r : y.ra ρ = y.r0 ρ := by cases y <;> first | rfl | grind
   have i:y.la n=y.l0 n:=by cases y<;>first|rfl|grind
   rw[r] at h;rw[i] at d;exact CV hi e d h
theorem sI (hi:c'.au=c.au)(e:∀k,k<n->c'.f k=c.f (ρ k)){y:AV}{v:Value}(d:y.l1 n=true)(h:Rel c w (y.r1 ρ) v):Rel c' w y v:=by
 cases y with
 | cG t y =>
   cases h with
   | cG _ h=>exact .cG t (yf hi e d h)
 | fn f u x =>
   simp only[AV.l1,Bool.and_eq_true] at d;cases h with
   | fn _ o p l m =>
     obtain⟨q,s⟩:=qD (fun y v a b=>yf hi e a b) d.1 o l
     obtain⟨r,i⟩:=qD (fun y v a b=>yf hi e a b) d.2 p m
     exact .fn f q r s i
 | _=>exact yf hi e d h
theorem sJ (hi:c'.au=c.au)(g:∀k,k<n->c'.f k=c.f (ρ k)){y:AV}{v:Value}(e:y.l2 n=true)(h:Rel c w (y.r2 ρ) v):Rel c' w y v:=by
 cases y with
 | ao o =>
   cases h with
   | ao l j =>
     obtain⟨m,i⟩:=qD (fun y v a b=>sI hi g a b) e l j
     exact .ao m i
 | _=>exact sI hi g e h
end
def look:List (Nat×Nat)->Nat->Nat
 | [],k=>k
 | (a,b)::l,k=>bif beq k a then b else look l k
def yj (m:Nat)(l:List (Nat×Nat))(k:Nat):Nat:=bif blt k m then k else look l k
section
variable {P:Program} {E:Env} {rr:Bool}
theorem dt.cp {m l nx:Nat}(ρ:Nat->Nat)(hρ:∀k,k<m->ρ k=k)(W:m≤l){S S':St}(hn:S'.bF=S.bF)(hs:∀t y,S'.bo.get t=some y->S.bo.get t=some (y.r2 ρ)∧y.l2 l=true)
 (Q:∀k o,S'.heap.get k=some o->k<l∧S.heap.get (ρ k)=some (o.cp ρ)∧o.lt l)(hi:∀k k' o o',S'.heap.get k=some o->S'.heap.get k'=some o'->ρ k=ρ k'->k=k'):dt P E m (S.at_ nx) (S'.at_ l):=by
 intro c a w h;refine⟨⟨fun k=>if k<l then c.f (ρ k) else none,c.au⟩,fun k u=>?_,fun _ h=>h,fun _ h => .inl h,?_,?_⟩
 . grind
 . rintro b ⟨k, o, B, u, d, rfl⟩
   obtain⟨C,A,_⟩:=Q k o u;have U:c.f (ρ k)=some B:=by simpa[C] using d
   exact⟨ρ k,_,B,A,U,rfl⟩
 . have d : ∀ k, k < l->(⟨fun k => if k < l then c.f (ρ k) else none, c.au⟩ : Ctx).f k = c.f (ρ k) := fun k u => if_pos u
   have q:(⟨fun k=>if k<l then c.f (ρ k) else none,c.au⟩:Ctx).au=c.au:=rfl
   refine⟨h.size.trans hn.symm,fun t y e=>?_,h.defers.mono (Nat.le_refl _) (fun D _ h1 h2=>⟨h1,h2⟩),⟨h.bu.bH,?_,?_,?_,?_⟩,fun k u=>if_neg (Nat.not_lt.2 u)⟩
   . obtain ⟨C, A⟩ := hs t y e
     obtain⟨v,e1,e2⟩:=h.bo t _ C;exact⟨v,e1,sJ q d A e2⟩
   . intro k B e
     by_cases u:k<l
     . rw[d k u] at e;exact h.bu.bX _ B e
     grind
   . intro k o e
     obtain⟨C,A,V⟩:=Q k o e;obtain⟨B,b1,b2,J⟩:=h.bu.obj _ _ A;refine⟨B,(d k C).trans b1,b2,?_⟩;cases o with
     | dG s pos=>exact J
     | lp st pend sl bF code =>
       obtain⟨r,g,H,K,I,M,O,R⟩:=J;refine⟨r,g,H,K,I,M,O,fun t x W=>?_⟩
       obtain⟨v,X,Y⟩:=R t (x.r2 ρ) (mem_map.2 ⟨(t,x),W,rfl⟩);exact⟨v,X,sJ q d (all_eq_true.1 V (t,x) W) Y⟩
     | mp N =>
       obtain⟨a0,T,F,H,K,I,f,M,O,R⟩:=J;have z:∀k x,(k,x)∈N->(k,x.r1 ρ)∈N.map fun p=>(p.1,p.2.r1 ρ):=fun k x e=>mem_map.2 ⟨(k,x),e,rfl⟩
       refine⟨a0,T,F,H,K,by simpa[cu,Function.comp_def] using I,f,fun k x e=>M k _ (z k x e),fun e he=>?_,fun k x e=>sI q d (all_eq_true.1 V _ e) (R k _ (z k x e))⟩
       grind
     | cm cur N=>exact J
     | arr sz N =>
       obtain⟨arr,t,H,K,I,M,O⟩:=J;refine⟨arr,t,H,K,I,by grind,fun i e he=>?_⟩
       obtain⟨f1,f2⟩:=O i (e.map (AV.r1 ρ)) aY;refine⟨by grind,fun j x hx=>?_⟩
       obtain⟨v,X,Y⟩:=f2 j (x.r1 ρ) aY;exact⟨v,X,sI q d (all_eq_true.1 (all_eq_true.1 V e (mem_of_getElem? he)) x (mem_of_getElem? hx)) Y⟩
   . intro k k' o o' B B' e e' f f' hb
     obtain⟨C,A,_⟩:=Q k o e;obtain⟨Z,g2',_⟩:=Q k' o' e';rw[d k C] at f;rw[d k' Z] at f';exact hi k k' o o' e e' (h.bu.inj _ _ _ _ B B' A g2' f f' hb)
   . intro g cs e
     exact CV (ρ:=ρ) (n:=l) q d rfl (h.bu.bR g cs e)
inductive lX where
 | slot (t:Nat)
 | cell (k j:Nat)
def nameOf:AV->Option Nat
 | .ptr k _ _=>some k
 | .az k _ _ _=>some k
 | .fT k=>some k
 | .cY k=>some k
 | _=>none
def lX.find (S:St):lX->Option Nat
 | .slot t => match S.bo.get t with
   | some v=>nameOf v
   | none=>none
 | .cell k j => match S.heap.get k with
   | some (.arr _ (e :: _)) => match e[j]? with
     | some v=>nameOf v
     | none=>none
   | _=>none
def qq (S:St):List (Nat×lX)->List (Nat×Nat)
 | []=>[]
 | (K, r) :: l => match r.find S with
   | some j=>(K,j)::qq S l
   | none=>qq S l
def gF:List (Nat×AV)->Tr AV
 | [] => .nil
 | (t,v)::l => .put t (some v) (gF l)
def gS:List (Nat×an)->ai
 | [] => .nil
 | (t,v)::l => .put t (some v) (gS l)
theorem oK:∀{l:List (Nat×AV)} {t:Nat} {y:AV},(gF l).get t=some y->(t,y)∈l
 | [],t,y,h=>by cases h
 | (k, v) :: l, t, y, h => by
   rw[gF,Tr.get] at h;cases e:beq t k with
   | true =>
     simp_all
   | false=>rw[e] at h;exact mem_cons_of_mem _ (oK h)
theorem nB:∀{l:List (Nat×an)} {t:Nat} {y:an},(gS l).get t=some y->(t,y)∈l
 | [],t,y,h=>by cases h
 | (k, v) :: l, t, y, h => by
   rw[gS,Tr.get] at h;cases e:beq t k with
   | true =>
     simp_all
   | false=>rw[e] at h;exact mem_cons_of_mem _ (nB h)
def mW (ρ:Nat->Nat)(b:Nat)(S:St):List (Nat×AV)->Prop
 | []=>True
 | (t, y) :: l => (match S.bo.get t with
   | some x=>x=y.r2 ρ∧y.l2 b=true
   | none=>False)∧mW ρ b S l
def AG (ρ:Nat->Nat)(a:Nat)(S:St):List (Nat×an)->Prop
 | []=>True
 | (k, o) :: l => (blt k a = true ∧ match S.heap.get (ρ k) with
   | some x=>x=o.cp ρ∧o.lt a
   | none=>False)∧AG ρ a S l
def pP (ρ:Nat->Nat):List Nat->Bool
 | []=>true
 | k::l=>l.all (fun j=>!beq (ρ k) (ρ j) || beq k j) && pP ρ l
theorem AI {ρ:Nat->Nat}{c:Nat}{S:St}:∀{l:List (Nat×AV)},mW ρ c S l->∀t y,(t,y)∈l->S.bo.get t=some (y.r2 ρ)∧y.l2 c=true
 | (t, y) :: l, h, f, d, b => by
   rcases mem_cons.1 b with e|b
   . have g := h.1
     grind
   exact AI h.2 _ _ b
theorem FA {ρ:Nat->Nat}{b:Nat}{S:St}:∀{l:List (Nat×an)},AG ρ b S l->∀k o,(k,o)∈l->k<b∧S.heap.get (ρ k)=some (o.cp ρ)∧o.lt b
 | (k, o) :: l, h, d, f, c => by
   rcases mem_cons.1 c with e|c
   . obtain ⟨g, i⟩ := h.1
     split at *
     . simp_all
     grind
   exact FA h.2 d f c
theorem AH {ρ:Nat->Nat}:∀{l:List Nat},pP ρ l=true->∀k∈l,∀k'∈l,ρ k=ρ k'->k=k'
 | k :: l, h, a, g, b, m, o => by
   simp only[pP,Bool.and_eq_true,all_eq_true,Bool.or_eq_true] at h;have i:∀j∈l,ρ k=ρ j->k=j:=fun j n e=>by
    rcases h.1 j n with h|h
    . simp_all
    simp_all
   rcases mem_cons.1 g with p|d
   . grind
   . rcases mem_cons.1 m with q | f
     . grind
     . exact AH h.2 a d b f o
def mX (m c:Nat)(a:List (Nat×lX))(S:St)(d:List (Nat×AV))(b:List (Nat×an)):Prop:=
 (pP (yj m (qq S a)) (b.map (·.1))=true∧mW (yj m (qq S a)) c S d)∧AG (yj m (qq S a)) c S b
theorem oh {m b nx:Nat}(g:m≤b){a:List (Nat×lX)}{S:St}{c:List (Nat×AV)}{d:List (Nat×an)}(h:mX m b a S c d):dt P E m (S.at_ nx) ((⟨gF c,S.bF,gS d,0⟩:St).at_ b):=by
 obtain⟨⟨i,j⟩,n⟩:=h;refine dt.cp _ (fun k p=>?_) g rfl (fun t y e=>AI j t y (oK e)) (fun k o e=>FA n k o (nB e)) (fun k r o q e l f=>AH i k (mem_map.2 ⟨_,nB e,rfl⟩) _ (mem_map.2 ⟨_,nB l,rfl⟩) f)
 unfold yj;rw[show blt k m=true by simp_all]
 rfl
def kL (S:St):List Nat->(List (Nat×AV)->Prop)->Prop
 | [],k=>k []
 | t :: l, k => match S.bo.get t with
   | some v=>v.f3 fun b=>kL S l fun r=>k ((t,b)::r)
   | none=>kL S l k
def lG:ai->List Nat->(List (Nat×an)->Prop)->Prop
 | .put n o t, seen, k => cond (seen.contains n) (lG t seen k) (match o with
   | some o=>lG t (n::seen) fun r=>k ((n,o)::r)
   | none=>lG t (n::seen) k)
 | .fq _ _ _ t,seen,k=>lG t seen k
 | .nil,_,k=>k []
 | .node _ _ _,_,k=>k []
def iI:List (Nat×AV)->(List (Nat×AV)->Prop)->Prop
 | [],k=>k []
 | (t,v)::l,k=>v.f3 fun b=>iI l fun r=>k ((t,b)::r)
def mm:List (Nat×AV)->(Tr AV->Prop)->Prop
 | [],k=>k .nil
 | (t,v)::l,k=>mm l fun r=>k (.put t (some v) r)
def oJ:List (Nat×an)->(ai->Prop)->Prop
 | [],k=>k .nil
 | (t,v)::l,k=>oJ l fun r=>k (.put t (some v) r)
def en {a:Type}:List a->List a->(List a->Prop)->Prop
 | [],r,k=>k r
 | x::l,r,k=>en l r fun c=>k (x::c)
theorem ql {S:St}:∀{l:List Nat} {k:List (Nat×AV)->Prop},kL S l k->∃r,k r
 | [],_,h=>⟨[],h⟩
 | t :: l, k, h => by
   simp[kL] at h;split at h
   . obtain⟨r,b⟩:=ql (AV.kG h);grind
   exact ql h
theorem nt:∀{t:ai} {seen:List Nat} {k:List (Nat×an)->Prop},lG t seen k->∃r,k r
 | .put n o t, seen, k, h => by
   simp only[lG] at h;cases b:seen.contains n with
   | true=>rw[b] at h;exact nt h
   | false =>
     rw[b] at h;split at h
     . obtain⟨r,c⟩:=nt h;grind
     . exact nt h
 | .fq _ _ _ t,_,_,h=>nt (t:=t) h
 | .nil,_,_,h=>⟨[],h⟩
 | .node _ _ _,_,_,h=>⟨[],h⟩
theorem jc:∀{l:List (Nat×AV)} {k:List (Nat×AV)->Prop},iI l k->k l
 | [],_,h=>h
 | (t,v)::l,k,h=>jc (l:=l) (AV.kG h)
theorem nC:∀{l:List (Nat×AV)} {k:Tr AV->Prop},mm l k->k (gF l)
 | [],_,h=>h
 | (t,v)::l,k,h=>nC (l:=l) h
theorem qv:∀{l:List (Nat×an)} {k:ai->Prop},oJ l k->k (gS l)
 | [],_,h=>h
 | (t,v)::l,k,h=>qv (l:=l) h
theorem eE {b:Type}:∀{l r:List b} {k:List b->Prop},en l r k->k (l++r)
 | [],_,_,h=>h
 | x::l,r,k,h=>eE (l:=l) h
theorem DW.aO (z:bW P E)(k:P.follows .mixedOrders=true){α:Type}(i u:List Nat)(o:Nat)(a:α->List (Nat×AV))(n:α->List (Nat×an))(b:List (Nat×lX))(t:α->Nat)(v:α)
 {d:Code}{K:AX->Nat->St->Prop}{nx:Nat}{S:St}
 (h:lG S.heap u fun g=>kL S i fun l=>(iI (a v) fun m=>en m l fun j=>en (n v) g fun c=>mX nx (nx+o) b S j c) ∧
   ∀ x, iI (a x) fun m => en m l fun j => mm j fun r => en (n x) g fun c => oJ c fun C => fI P E rr d (fun e f S'=>match e with
    | .normal=>∃p,(iI (a p) fun m=>en m l fun j=>en (n p) g fun c=>mX nx (nx+o) b S' j c)∧S'.bF=S.bF∧t p<t x
    | e=>K e f S') (nx+o) ⟨r,S.bF,C,0⟩):DW P E rr nx (.loop d) K S:=by
 obtain⟨g,h⟩:=nt h;obtain⟨l,B,h⟩:=ql h;have s:nx≤nx+o:=le_add_right _ _;refine DW.loop (fun x=>⟨gF (a x++l),S.bF,gS (n x++g),0⟩) _ t _ s (oh s (eE (eE (jc B)))) fun x=>?_
 have:=qv (eE (nC (eE (jc (h x)))));refine(DW.gp z k _ this).mono fun e f S' y=>?_
 cases e with
 | normal =>
   obtain⟨p,D,G,F⟩:=y;have:=oh (P:=P) (E:=E) (nx:=f) s (eE (eE (jc D)))
   grind
 | _=>exact y
end
end Go.Ago
end
section
namespace Go.Ago
open List Nat
section
variable {P:Program} {E:Env}
theorem DV.pure {nm:Nat}{g:FuncId}{a cap args args':List AV}{H:ai}{Q:AE->Prop}{R:AV->List (Nat×Option an)->List Nat->Prop}(c:aM (snap .nil 20) (a++args++cap)=some args')(h:DP P E g args' Q)(d:∀b,Q b->∃v,b = .ret v∧R v [] []) :
 DV P E nm (.fn (.func g) a cap) args H R:=by
 obtain⟨b,f,i⟩:=h;obtain⟨v,rfl,e⟩:=d _ i;exact .inl ⟨v,[],mK.pure c (PC.mono f (ag)),e⟩
theorem DV.flat {nm:Nat}{g:FuncId}{a cap args args':List AV}{H:ai}{Q:AE->Prop}{R:AV->List (Nat×Option an)->List Nat->Prop}(c:aM (snap H 20) (a++args++cap)=some args')(h:DP P E g args' Q)
 (d:∀b,Q b->∃v,b = .ret v∧v.flat=true∧R v [] ((a++args++cap).flatMap (cC H 20))):DV P E nm (.fn (.func g) a cap) args H R:=by
 obtain⟨b,f,i⟩:=h;obtain⟨v,rfl,j,e⟩:=d _ i;exact .inl ⟨v,_,mK.flat c (PC.mono f (ag)) j,e⟩
theorem DV.new {nm K0 sz n:Nat}{es:List (List AV)}{g:FuncId}{b cap args args':List AV}{H:ai}{R:AV->List (Nat×Option an)->List Nat->Prop}(f:aM (snap .nil 20) (b++args++cap)=some args')
 (h:DC P E g args' .nil 0 (fun c H' _=>c = .ret (.az K0 0 n sz)∧H'.get K0=some (.arr sz es)))(k:(es.all fun e=>e.all hY)=true)(l:ble (nm+2) 16777216=true)(o:R (.az nm 0 n sz) [(nm,some (.arr sz es))] []) :
 DV P E nm (.fn (.func g) b cap) args H R:=by
 obtain⟨c,H',p,r,s⟩:=h;refine .inr (.inl ⟨_,_,⟨g,b,cap,args',K0,.arr _ _,_,rfl,f,AC.mono r fun a h m t=>?_,fun i e q j x d=>?_,.inl ⟨n,sz,rfl,rfl⟩,rfl,?_⟩,o⟩)
 . grind
 . exact all_eq_true.1 (all_eq_true.1 k e (mem_of_getElem? q)) x (mem_of_getElem? d)
 have:=le_of_ble_eq_true l;omega
end
structure BL (α:Type) where
 l:List α
 h:l.length<281474976710656
theorem aF {n:Int}(h : -9223372036854775808≤n)(a:n<9223372036854775808):wr .i64 n=n:=by
 show IntKind.wrap _ n=n;simp[IntKind.wrap,IntKind.bits,IntKind.signed];omega
end Go.Ago
end
section
namespace Go.Ago
open List Nat
def oX (E:Env)(b:Func)(R:AE->ai->Nat->Prop):AX->Nat->St->Prop
 | .normal, a, S | .ret, a, S => match ij E b S with
   | some x => x.f3 fun y => match S with
     | ⟨_,_,H,_⟩=>R (.ret y) H a
   | none=>False
 | .aR v,a,S=>v.f3 fun y=>match S with
  | ⟨_,_,H,_⟩=>R (.aR y) H a
 | _,_,_=>False
theorem JZ {E:Env}{j:Func}{R:AE->ai->Nat->Prop}{e:AX}{nx:Nat}{S:St}(h:oX E j R e nx S):qG E j R e nx S:=by
 obtain⟨a,b,H,d⟩:=S;cases e with
 | normal =>
   simp[oX] at h;simp[qG];split at h
   . rename_i e;rw[e];exact AV.kG h
   grind
 | ret =>
   simp[oX] at h;simp[qG];split at h
   . rename_i e;rw[e];exact AV.kG h
   grind
 | aR v=>exact AV.kG (k:=fun y=>R _ H _) h
 | exit i=>exact h
 | goto i=>exact h
variable {P:Program} {E:Env} {rr:Bool}
theorem DC.walk {f:FuncId}{a:Func}{code:Code}{args:List AV}{H:ai}{nx:Nat}{R:AE->ai->Nat->Prop}(c:bW P E)(b:P.follows .mixedOrders=true)(k:P.funcs[f]? = some a)(i:a.body=some code)(j:a.name ≠ "runtime.NumGoroutine")
 (d:ble args.length a.ntmps=true)(l:blt a.ntmps 1000000=true)(h:fL AV.f1 args fun args'=>nk args' 0 .nil fun m=>fN a.ntmps fun n=>fI P E false code (oX E a R) nx ⟨m,n,H,0⟩):DC P E f args H nx R:=by
 have o:=le_of_ble_eq_true d;have p:=by simpa using l
 refine DC.nD c k i j aa ?_;rw[uD d];exact(DW.gp c b _ (rO (sa (gj (fun _ _ h=>AV.gi h) h)))).mono fun e _ s g=>JZ g
end Go.Ago
end
namespace Go.Ago
open Go.Proofs List Nat Tryz
def Lv:TI:=⟨1,8,false,[.cZ],.func,false⟩
def o6:TI:=⟨1,8,false,[.int .i64 0],.int .i64,true⟩
def MJ:TI:=⟨1,1,false,[.bool false],.bool,true⟩
def sZ:TI:=⟨1,1,false,[.int .u8 0],.int .u8,true⟩
def vj:TI:=⟨1,16,false,[.str []],.string,true⟩
def LW:TI:=⟨1,16,false,[.eH],.iface,false⟩
def L0:TI:=⟨1,4,false,[.int .i32 0],.int .i32,true⟩
def L4:TI:=⟨1,24,false,[.ah],.slice 120,false⟩
def L8:TI:=⟨1,24,false,[.ah],.slice 203,false⟩
def Mb:TI:=⟨1,24,false,[.ah],.slice 122,false⟩
def Mg:TI:=⟨1,24,false,[.ah],.slice 9,false⟩
def Mi:TI:=⟨1,24,false,[.ah],.slice 3,false⟩
def Mp:TI:=⟨6,128,true,[.ah,.int .i64 0,.ah,.ah,.ah,.ah],.struct [(0,1,22),(1,1,3),(2,1,23),(3,1,24),(4,1,25),(5,1,26)],false⟩
def Mr:TI:=⟨1,24,false,[.ah],.slice 44,false⟩
def Mv:TI:=⟨7,152,true,[.ah,.int .i64 0,.ah,.ah,.ah,.ah,.ah],.struct [(0,6,28),(6,1,29)],false⟩
def Mw:TI:=⟨1,8,false,[.cZ],.func,false⟩
def MD:TI:=⟨1,8,false,[.int .i64 0],.int .i64,true⟩
def MI:TI:=⟨1,24,false,[.ah],.slice 26,false⟩
def MK:TI:=⟨1,24,false,[.ah],.slice 62,false⟩
def ML:TI:=⟨2,32,true,[.int .i64 0,.ah],.struct [(0,1,3),(1,1,42)],false⟩
def MM:TI:=⟨1,24,true,[.ah],.struct [(0,1,39)],false⟩
def MN:TI:=⟨5,48,true,[.int .i64 0,.int .i64 0,.int .i64 0,.bool false,.str []],.struct [(0,1,3),(1,1,3),(2,1,3),(3,1,4),(4,1,9)],true⟩
def MO:TI:=⟨2,24,true,[.int .i64 0,.str []],.struct [(0,1,3),(1,1,9)],true⟩
def MP:TI:=⟨1,24,false,[.ah],.slice 209,false⟩
def MQ:TI:=⟨1,24,false,[.ah],.slice 56,false⟩
def MR:TI:=⟨29,304,true,[.int .i64 0,.int .i64 0,.int .i64 0,.int .i64 0,.int .i64 0,.int .i64 0,.int .i64 0,.bool false,.str [],.int .i64 0,.int .i64 0,.int .i64 0,.bool false,.str [],.int .i64 0,.int .i64 0,.int .i64 0,.bool false,.str [],.int .i64 0,.int .i64 0,.int .i64 0,.int .i64 0,.str [],.ah,.ah,.ah,.bool false,.bool false],.struct [(0,1,3),(1,1,3),(2,1,3),(3,1,3),(4,5,56),(9,5,56),(14,5,56),(19,1,3),(20,1,3),(21,1,3),(22,2,58),(24,1,59),(25,1,26),(26,1,60),(27,1,4),(28,1,4)],false⟩
def MS:TI:=⟨1,24,false,[.ah],.slice 77,false⟩
def MT:TI:=⟨1,24,false,[.ah],.slice 34,false⟩
def MU:TI:=⟨1,8,false,[.cZ],.func,false⟩
def MV:TI:=⟨2,16,true,[.int .i64 0,.int .i64 0],.array 2 3,true⟩
def MW:TI:=⟨1,8,false,[.cZ],.func,false⟩
def MX:TI:=⟨3,56,true,[.ah,.int .i64 0,.ah],.struct [(0,1,42),(1,1,3),(2,1,26)],false⟩
def MY:TI:=⟨1,24,false,[.ah],.slice 91,false⟩
def MZ:TI:=⟨1,24,false,[.ah],.slice 128,false⟩
def M0:TI:=⟨1,8,false,[.cZ],.func,false⟩
def Lw:TI:=⟨8,160,true,[.ah,.int .i64 0,.ah,.ah,.ah,.ah,.ah,.int .i64 0],.struct [(0,7,31),(7,1,3)],false⟩
def Lx:TI:=⟨15,328,true,[.ah,.int .i64 0,.ah,.ah,.ah,.ah,.ah,.ah,.int .i64 0,.ah,.ah,.ah,.ah,.ah,.ah],.struct [(0,7,31),(7,7,31),(14,1,39)],false⟩
def Ly:TI:=⟨1,8,false,[.fO],.map 3 111,false⟩
def LA:TI:=⟨2,32,true,[.bool false,.ah],.struct [(0,1,4),(1,1,26)],false⟩
def LB:TI:=⟨3,40,true,[.fO,.bool false,.ah],.struct [(0,1,109),(1,2,111)],false⟩
def LC:TI:=⟨1,24,false,[.ah],.slice 113,false⟩
def LD:TI:=⟨1,24,false,[.ah],.slice 181,false⟩
def LF:TI:=⟨7,112,true,[.str [],.int .i64 0,.int .i64 0,.int .i64 0,.ah,.ah,.ah],.struct [(0,1,9),(1,1,3),(2,1,3),(3,1,3),(4,1,23),(5,1,118),(6,1,60)],false⟩
def LG:TI:=⟨2,24,true,[.str [],.int .i64 0],.struct [(0,1,9),(1,1,3)],true⟩
def DQ:TI:=⟨1,8,false,[.int .u64 0],.int .u64,true⟩
def LH:TI:=⟨1,24,false,[.ah],.slice 4,false⟩
def LJ:TI:=⟨1,8,false,[.cZ],.func,false⟩
def LK:TI:=⟨2,24,true,[.str [],.bool false],.struct [(0,1,9),(1,1,4)],true⟩
def LL:TI:=⟨1,24,false,[.ah],.slice 146,false⟩
def LM:TI:=⟨1,8,false,[.cZ],.func,false⟩
def LN:TI:=⟨3,24,true,[.int .i64 0,.int .i64 0,.int .i64 0],.array 3 3,true⟩
def LO:TI:=⟨1,8,false,[.cZ],.func,false⟩
def LP:TI:=⟨1,8,false,[.int .u64 0],.int .u64,true⟩
def LQ:TI:=⟨1,8,false,[.dF],.ptr,false⟩
def LR:TI:=⟨1,24,false,[.ah],.slice 227,false⟩
def LS:TI:=⟨1,24,false,[.ah],.slice 230,false⟩
def LU:TI:=⟨11,128,true,[.int .i64 0,.int .i64 0,.ah,.ah,.int .i64 0,.int .i64 0,.int .i64 0,.ah,.int .i64 0,.bool false,.bool false],.struct [(0,1,3),(1,1,3),(2,1,178),(3,1,179),(4,1,3),(5,1,3),(6,1,3),(7,1,59),(8,1,3),(9,1,4),(10,1,4)],false⟩
def LV:TI:=⟨39,624,true,[.str [],.str [],.str [],.str [],.str [],.str [],.str [],.str [],.str [],.str [],.str [],.str [],.str [],.str [],.str [],.str [],.str [],.str [],.str [],.str [],.str [],.str [],.str [],.str [],.str [],.str [],.str [],.str [],.str [],.str [],.str [],.str [],.str [],.str [],.str [],.str [],.str [],.str [],.str []],.array 39 9,true⟩
def LX:TI:=⟨1,8,false,[.cZ],.func,false⟩
def LY:TI:=⟨8,80,true,[.int .i64 0,.int .i64 0,.int .i64 0,.int .i64 0,.bool false,.str [],.int .i64 0,.str []],.struct [(0,1,3),(1,5,56),(6,2,58)],true⟩
def LZ:TI:=⟨4,40,true,[.int .i64 0,.int .i64 0,.int .i64 0,.str []],.struct [(0,1,3),(1,1,3),(2,1,3),(3,1,9)],true⟩
def L1:TI:=⟨2,16,true,[.fO,.fO],.array 2 109,false⟩
def L3:TI:=⟨1,8,true,[.int .i64 0],.struct [(0,1,34)],true⟩
def L5:TI:=⟨8,160,true,[.ah,.int .i64 0,.ah,.ah,.ah,.ah,.int .i64 0,.ah],.struct [(0,6,28),(6,1,3),(7,1,26)],false⟩
def L6:TI:=⟨1,24,false,[.ah],.slice 275,false⟩
def L7:TI:=⟨11,128,true,[.int .i64 0,.int .i64 0,.int .i64 0,.int .i64 0,.ah,.ah,.int .i64 0,.int .i64 0,.int .i64 0,.bool false,.str []],.struct [(0,1,3),(1,1,3),(2,1,3),(3,1,3),(4,1,179),(5,1,225),(6,5,56)],false⟩
def L9:TI:=⟨11,136,true,[.int .i64 0,.int .i64 0,.int .i64 0,.int .i64 0,.bool false,.str [],.int .i64 0,.str [],.int .i64 0,.ah,.ah],.struct [(0,1,3),(1,5,56),(6,2,58),(8,1,3),(9,1,179),(10,1,178)],false⟩
def L_:TI:=⟨1,8,false,[.dF],.ptr,false⟩
def Ma:TI:=⟨6,56,true,[.str [],.bool false,.int .i64 0,.int .i64 0,.int .i64 0,.bool false],.struct [(0,1,9),(1,1,4),(2,1,3),(3,1,3),(4,1,3),(5,1,4)],true⟩
def Mc:TI:=⟨1,24,false,[.ah],.slice 325,false⟩
def Md:TI:=⟨12,112,true,[.str [],.bool false,.int .i64 0,.int .i64 0,.int .i64 0,.bool false,.ah,.int .u8 0,.int .i64 0,.bool false,.int .u8 0,.int .i64 0],.struct [(0,6,239),(6,1,240),(7,1,5),(8,1,3),(9,1,4),(10,1,5),(11,1,3)],false⟩
def Me:TI:=⟨1,1,false,[.int .i8 0],.int .i8,true⟩
def yY:TI:=⟨2,2,true,[.int .i8 0,.int .i8 0],.array 2 244,true⟩
def Mf:TI:=⟨64,64,true,[.int .i8 0,.int .i8 0,.int .i8 0,.int .i8 0,.int .i8 0,.int .i8 0,.int .i8 0,.int .i8 0,.int .i8 0,.int .i8 0,.int .i8 0,.int .i8 0,.int .i8 0,.int .i8 0,.int .i8 0,.int .i8 0,.int .i8 0,.int .i8 0,.int .i8 0,.int .i8 0,.int .i8 0,.int .i8 0,.int .i8 0,.int .i8 0,.int .i8 0,.int .i8 0,.int .i8 0,.int .i8 0,.int .i8 0,.int .i8 0,.int .i8 0,.int .i8 0,.int .i8 0,.int .i8 0,.int .i8 0,.int .i8 0,.int .i8 0,.int .i8 0,.int .i8 0,.int .i8 0,.int .i8 0,.int .i8 0,.int .i8 0,.int .i8 0,.int .i8 0,.int .i8 0,.int .i8 0,.int .i8 0,.int .i8 0,.int .i8 0,.int .i8 0,.int .i8 0,.int .i8 0,.int .i8 0,.int .i8 0,.int .i8 0,.int .i8 0,.int .i8 0,.int .i8 0,.int .i8 0,.int .i8 0,.int .i8 0,.int .i8 0,.int .i8 0],.array 32 245,true⟩
def Mh:TI:=⟨1,8,false,[.int .i64 0],.int .i64,true⟩
def Mj:TI:=⟨1,24,false,[.ah],.slice 5,false⟩
def Ml:TI:=⟨5,5,true,[.int .i8 0,.int .i8 0,.int .i8 0,.int .i8 0,.int .i8 0],.struct [(0,1,244),(1,1,244),(2,1,244),(3,1,244),(4,1,244)],true⟩
def Mm:TI:=⟨115,115,true,[.int .i8 0,.int .i8 0,.int .i8 0,.int .i8 0,.int .i8 0,.int .i8 0,.int .i8 0,.int .i8 0,.int .i8 0,.int .i8 0,.int .i8 0,.int .i8 0,.int .i8 0,.int .i8 0,.int .i8 0,.int .i8 0,.int .i8 0,.int .i8 0,.int .i8 0,.int .i8 0,.int .i8 0,.int .i8 0,.int .i8 0,.int .i8 0,.int .i8 0,.int .i8 0,.int .i8 0,.int .i8 0,.int .i8 0,.int .i8 0,.int .i8 0,.int .i8 0,.int .i8 0,.int .i8 0,.int .i8 0,.int .i8 0,.int .i8 0,.int .i8 0,.int .i8 0,.int .i8 0,.int .i8 0,.int .i8 0,.int .i8 0,.int .i8 0,.int .i8 0,.int .i8 0,.int .i8 0,.int .i8 0,.int .i8 0,.int .i8 0,.int .i8 0,.int .i8 0,.int .i8 0,.int .i8 0,.int .i8 0,.int .i8 0,.int .i8 0,.int .i8 0,.int .i8 0,.int .i8 0,.int .i8 0,.int .i8 0,.int .i8 0,.int .i8 0,.int .i8 0,.int .i8 0,.int .i8 0,.int .i8 0,.int .i8 0,.int .i8 0,.int .i8 0,.int .i8 0,.int .i8 0,.int .i8 0,.int .i8 0,.int .i8 0,.int .i8 0,.int .i8 0,.int .i8 0,.int .i8 0,.int .i8 0,.int .i8 0,.int .i8 0,.int .i8 0,.int .i8 0,.int .i8 0,.int .i8 0,.int .i8 0,.int .i8 0,.int .i8 0,.int .i8 0,.int .i8 0,.int .i8 0,.int .i8 0,.int .i8 0,.int .i8 0,.int .i8 0,.int .i8 0,.int .i8 0,.int .i8 0,.int .i8 0,.int .i8 0,.int .i8 0,.int .i8 0,.int .i8 0,.int .i8 0,.int .i8 0,.int .i8 0,.int .i8 0,.int .i8 0,.int .i8 0,.int .i8 0,.int .i8 0,.int .i8 0,.int .i8 0],.array 23 269,true⟩
def Mn:TI:=⟨14,160,true,[.int .i64 0,.int .i64 0,.int .i64 0,.int .i64 0,.bool false,.str [],.int .i64 0,.str [],.int .i64 0,.ah,.ah,.int .i64 0,.int .i64 0,.int .i64 0],.struct [(0,11,230),(11,1,3),(12,1,3),(13,1,3)],false⟩
def Mo:TI:=⟨1,8,false,[.cZ],.func,false⟩
def Mq:TI:=⟨19,152,true,[.int .i64 0,.int .i64 0,.int .i64 0,.int .i64 0,.int .i64 0,.int .i64 0,.int .i64 0,.int .i64 0,.int .i64 0,.int .i64 0,.int .i64 0,.int .i64 0,.int .i64 0,.int .i64 0,.int .i64 0,.int .i64 0,.int .i64 0,.int .i64 0,.int .i64 0],.array 19 3,true⟩
def Ms:TI:=⟨1,8,false,[.int .u64 0],.int .u64,true⟩
def Mt:TI:=⟨1,8,false,[.dF],.ptr,false⟩
def Mu:TI:=⟨1,8,false,[.cZ],.func,false⟩
def Mx:TI:=⟨1,8,false,[.dF],.ptr,false⟩
def My:TI:=⟨1,8,false,[.int .i64 0],.int .i64,true⟩
def Mz:TI:=⟨1,8,false,[.dF],.ptr,false⟩
def MA:TI:=⟨6,56,true,[.dF,.str [],.bool false,.int .i64 0,.int .i64 0,.int .i64 0],.struct [(0,1,235),(1,1,9),(2,1,4),(3,1,3),(4,1,3),(5,1,3)],false⟩
def MB:TI:=⟨1,8,false,[.cZ],.func,false⟩
def MC:TI:=⟨6,48,true,[.cZ,.cZ,.cZ,.cZ,.cZ,.cZ],.array 6 334,false⟩
def ME:TI:=⟨20,20,true,[.int .u8 0,.int .u8 0,.int .u8 0,.int .u8 0,.int .u8 0,.int .u8 0,.int .u8 0,.int .u8 0,.int .u8 0,.int .u8 0,.int .u8 0,.int .u8 0,.int .u8 0,.int .u8 0,.int .u8 0,.int .u8 0,.int .u8 0,.int .u8 0,.int .u8 0,.int .u8 0],.array 20 5,true⟩
def MF:TI:=⟨1,8,false,[.dF],.ptr,false⟩
def MG:TI:=⟨2,32,true,[.dF,.ah],.struct [(0,1,358),(1,1,267)],false⟩
def MH:TI:=⟨1,8,false,[.dF],.ptr,false⟩
def wH:List (Nat×TI):=[(1,Lv),(3,o6),(4,MJ),(5,sZ),(9,vj),(20,LW),(21,L0),(22,L4),(23,L8),(24,Mb),(25,Mg),(26,Mi),(28,Mp),(29,Mr),(31,Mv),(32,Mw),(34,MD),(39,MI),(42,MK),(44,ML),(46,MM),(56,MN),(58,MO),(59,MP),(60,MQ),(62,MR),(69,MS),(73,MT),(75,MU),(77,MV),(81,MW),(85,MX),(88,MY),(91,MZ),(93,M0),(106,Lw),(108,Lx),(109,Ly),(111,LA),(113,LB),(114,LC),(118,LD),(120,LF),(122,LG),(128,DQ),(134,LH),(145,LJ),(146,LK),(147,LL),(150,LM),(157,LN),(166,LO),(169,LP),(176,LQ),(178,LR),(179,LS),(181,LU),(184,LV),(200,LX),(203,LY),(209,LZ),(213,L1),(219,L3),(223,L5),(225,L6),(227,L7),(230,L9),(235,L_),(239,Ma),(240,Mc),(242,Md),(244,Me),(245,yY),(246,Mf),(258,Mh),(267,Mj),(269,Ml),(270,Mm),(275,Mn),(277,Mo),(282,Mq),(300,Ms),(304,Mt),(309,Mu),(323,Mx),(325,My),(329,Mz),(331,MA),(334,MB),(336,MC),(349,ME),(358,MF),(360,MG),(376,MH)]
def A9:Tr TI:=(.node (.node (.node (.node (.node (.node .nil (some Mv) (.node .nil none (.node .nil (some L5) .nil))) none (.node .nil none (.node .nil (some LA) (.node .nil (some Ma) .nil)))) none (.node (.node .nil (some MI) .nil) (some L8) .nil)) (some o6) (.node (.node (.node (.node .nil none (.node (.node .nil (some Mx) .nil) none .nil)) none (.node .nil none (.node .nil (some L7) .nil))) none (.node (.node (.node (.node .nil (some Mn) .nil) (some LL) .nil) none .nil) none (.node (.node .nil (some LS) .nil) none .nil))) none (.node (.node (.node (.node (.node .nil (some Mj) .nil) none .nil) (some MU) (.node (.node .nil (some MA) .nil) (some LY) .nil)) none (.node .nil none (.node .nil (some L_) .nil))) none (.node (.node .nil (some MZ) (.node .nil (some L3) .nil)) (some MP) .nil)))) (some Lv) (.node (.node (.node (.node .nil none (.node .nil none (.node .nil (some L6) .nil))) none (.node (.node (.node .nil (some LJ) .nil) (some MW) (.node .nil (some LZ) .nil)) none (.node .nil (some LB) .nil))) (some vj) (.node (.node (.node .nil (some MT) (.node (.node .nil (some Mz) .nil) none .nil)) none (.node (.node .nil (some LP) .nil) none .nil)) (some Mg) .nil)) (some sZ) (.node (.node (.node (.node .nil (some MS) (.node (.node .nil (some My) .nil) none .nil)) none .nil) (some L0) (.node (.node (.node (.node .nil (some Mo) .nil) none .nil) (some MX) (.node .nil (some L1) .nil)) none (.node (.node (.node .nil (some Mu) .nil) (some LU) .nil) none (.node .nil (some yY) .nil)))) none (.node (.node (.node (.node (.node .nil (some Ml) .nil) none .nil) (some MV) .nil) none (.node .nil (some Ly) .nil)) (some Mr) (.node (.node (.node .nil (some LN) .nil) (some M0) (.node (.node .nil (some ME) .nil) none .nil)) none .nil))))) none (.node (.node (.node (.node (.node (.node (.node .nil (some DQ) .nil) none .nil) (some Mw) .nil) none (.node (.node .nil none (.node (.node .nil (some MC) .nil) none .nil)) none (.node (.node (.node .nil (some Mt) .nil) (some LQ) .nil) none (.node .nil (some Mc) .nil)))) none (.node (.node (.node .nil none (.node .nil (some LX) .nil)) none (.node .nil none (.node (.node .nil (some MG) .nil) none .nil))) (some Mb) (.node (.node .nil (some MY) .nil) (some MN) (.node (.node .nil (some LV) .nil) (some LF) (.node (.node .nil (some MH) .nil) none .nil))))) (some MJ) (.node (.node .nil (some LW) (.node .nil none (.node .nil none (.node .nil (some Me) .nil)))) none (.node (.node .nil (some ML) (.node (.node (.node .nil (some Ms) .nil) none .nil) (some Lx) .nil)) (some Mp) (.node .nil (some MQ) .nil)))) none (.node (.node (.node (.node (.node (.node (.node .nil (some Mh) .nil) none .nil) none .nil) (some MD) .nil) none (.node (.node (.node .nil (some LK) .nil) none .nil) none (.node (.node .nil (some LR) .nil) (some LC) (.node .nil (some Md) .nil)))) none (.node (.node .nil (some MK) (.node .nil (some Lw) .nil)) (some Mi) (.node (.node (.node (.node .nil (some Mq) .nil) none .nil) none .nil) (some MO) (.node .nil (some LG) .nil)))) none (.node (.node (.node (.node (.node .nil (some LH) .nil) none .nil) none (.node (.node .nil (some LO) .nil) none (.node (.node .nil (some MF) .nil) (some L9) .nil))) (some L4) (.node (.node (.node .nil (some LM) .nil) none .nil) none (.node .nil (some LD) (.node .nil (some Mf) .nil)))) none (.node (.node (.node (.node (.node .nil (some Mm) .nil) none .nil) none (.node (.node .nil (some MB) .nil) none .nil)) (some MM) .nil) none (.node .nil (some MR) .nil))))))
theorem Q6:A9=xz wH .nil:=by kernel_rfl
theorem Q3:(wH.all fun p=>ble (p.1+2) 16777216)=true:=by kernel_rfl
theorem Q1:(wH.all fun p=>yZ prog p.1 p.2)=true:=by kernel_rfl
def Gi (P:Program)(p:Nat×TI):Bool:=!p.2.kF || (!P.eqGuardType P.depth p.1 && (match p.2.desc with | .struct _=>!P.stoodInHeld p.1|_=>true))
theorem Q2:(wH.all fun p=>Gi prog p)=true:=by kernel_rfl
theorem Q5 (G:eZ):bW prog ⟨A9.get,G⟩:=Q4 Q6 Q3 Q1 fun p hp he=>by
 have h:=all_eq_true.1 Q2 p hp;simp only[Gi,he,Bool.not_true,Bool.false_or,Bool.and_eq_true,Bool.not_eq_true'] at h;refine⟨h.1,fun fs hd=>?_⟩
 have h2:=h.2;rw[hd] at h2
 simpa using h2
end Go.Ago
