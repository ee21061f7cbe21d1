/-
  Part A11: lemmas, each with its own conditions.
-/
import Derived.Test.YthaolifcglpkdaaGreatDoorA10
set_option maxRecDepth 100000
set_option maxHeartbeats 0
set_option linter.all false
section
namespace Go.Ago
open List Nat
def mK (P:Program)(E:Env)(f:AV)(args:List AV)(H:ai)(v:AV)(rds:List Nat):Prop:=
 ∃g b c a,f = .fn (.func g) b c ∧
  ((aM (snap H 20) (b ++ args ++ c) = some a ∧ (∀ x ∈ b ++ args ++ c, ∀ k ∈ cC H 20 x, k ∈ rds) ∧ PC P E g a (· = .ret v) ∧ v.flat = true) ∨
   (aM (snap .nil 20) (b++args++c)=some a∧PC P E g a (· = .ret v)))
theorem mK.pure {P:Program}{E:Env}{g:FuncId}{a cap args args':List AV}{H:ai}{v:AV}(b:aM (snap .nil 20) (a++args++cap)=some args')(h:PC P E g args' (· = .ret v)) :
 mK P E (.fn (.func g) a cap) args H v []:=⟨g,a,cap,args',rfl,.inr ⟨b,h⟩⟩
theorem mK.flat {P:Program}{E:Env}{g:FuncId}{a cap args args':List AV}{H:ai}{v:AV}(c:aM (snap H 20) (a++args++cap)=some args')(h:PC P E g args' (· = .ret v))(d:v.flat=true) :
 mK P E (.fn (.func g) a cap) args H v ((a++args++cap).flatMap (cC H 20)):=
 ⟨g,a,cap,args',rfl,.inl ⟨c,fun x e _ b=>mem_flatMap.2 ⟨x,e,b⟩,h,d⟩⟩
def zH (P:Program)(E:Env)(nm:Nat)(f:AV)(args:List AV)(v:AV)(j:List (Nat×Option an)):Prop:=
 ∃g a c b d h e,f = .fn (.func g) a c∧aM (snap .nil 20) (a++args++c)=some b ∧
  AC P E g b .nil 0 (fun k l _=>k = .ret e∧l.get d=some h)∧vA h ∧
  ((∃n i,e = .az d 0 n i∧v = .az nm 0 n i)∨(e = .cY d∧v = .cY nm))∧j=[(nm,some h)]∧nm+1<2 ^ 24
def zI (P:Program)(E:Env)(f:AV)(args:List AV)(H:ai)(v:AV)(rds:List Nat)(h:List (Nat×Option an)):Prop:=
 ∃g a b,f = .fn (.func g) a b∧∀e c,(∀k∈rds,e.get k=H.get k)->AC P E g (a++args++b) e c fun i j d=>i = .ret v∧j=bk.dH e h∧d=c
def runs (ops:List Oper)(S:St)(g:Option (Nat×Bool)):Option Bool:=
 match g with
 | none=>some true
 | some (j,a)=>gO ops S j a
def act (P:Program)(E:Env)(nm:Nat)(o:Oper)(S:St)(d:DE):Prop:=
 match o.op with
 | .call { callee := .value f,args,.. }=>(mK P E (S.ev E f) (args.toList.map (S.ev E)) S.heap d.val d.rds∧d.up=[])∨zH P E nm (S.ev E f) (args.toList.map (S.ev E)) d.val d.up∨zI P E (S.ev E f) (args.toList.map (S.ev E)) S.heap d.val d.rds d.up
 | b=>(cc E nm (S.ev E) b).run S.heap=some (.inl ⟨d.val,d.up⟩)∧∀k∈(cc E nm (S.ev E) b).rds S.heap,k∈d.rds
def uQ (P:Program)(E:Env)(ops:List Oper)(nm:Nat)(o:Oper)(S:St)(d:DE):Prop:=
 cv S o.dst=true∧((runs ops S o.guard=some true∧act P E nm o S d)∨(runs ops S o.guard=some false∧d.val = .ao []∧d.up=[]))
section
variable {P:Program} {E:Env}
theorem X4 {E:Env}{nm:Nat}{ρ e:Operand->AV}(B:Op)(h:∀x∈B.operands,ρ x=e x):cc E nm ρ B=cc E nm e B:=by
 cases B<;>simp only[Op.operands] at h<;>try rfl
 case move x=>simp only[cc];grind
 case makeMap t r=>cases r<;>rfl
 case lookup t x i ok=>simp only[cc];grind
 case mapUpdate t m k v=>simp only[cc];grind
 case entry x=>simp only[cc];grind
 case assign x=>simp only[cc];grind
 case pick a b d=>simp only[cc];grind
 case box t x=>simp only[cc];grind
 case build t ps=>
  simp only[cc]
  congr 1
  apply map_congr_left
  grind
 case buildSlice t n ps=>
  simp only[cc]
  congr 1
  apply map_congr_left
  grind
 case load t a=>simp only[cc];grind
 case store t a v=>simp only[cc];grind
 case nilCheck x=>simp only[cc];grind
 case binOp B t x y t2=>simp only[cc];grind
 case unOp B t x=>simp only[cc];grind
 case convert s d x=>simp only[cc];grind
 case makeInterface t x=>simp only[cc];grind
 case makeFunc f xs ys=>
  simp only[cc]
  simp_all
 case makeSlice t l k=>simp only[cc];grind
 case slice t x lo hi mx=>
  simp only[cc];have hopt:∀(o:Option Operand),(∀y,o=some y->ρ y=e y)->o.map ρ=o.map e:=by
   intro o ho;cases o with
   | none=>rfl
   | some y=>grind
  grind
 case fieldAddr t x f=>simp only[cc];grind
 case range t x=>simp only[cc];grind
 case next x b=>simp only[cc];grind
 case field t x f=>simp only[cc];grind
 case indexAddr t x i=>simp only[cc];grind
 case index t x i=>simp only[cc];grind
 case typeAssert x st t ok=>simp only[cc];grind
 case extract x i=>simp only[cc];grind
 case panic x=>simp only[cc];grind
 case call cl=>
  obtain⟨g,p,ts⟩:=cl;cases g<;>try rfl
  simp only[cc];have h1:p.toList.map ρ=p.toList.map e:=map_congr_left fun x hx=>h x (by simp only[Call.operands,Array.mem_append];grind)
  rw[h1]
theorem Ri {S S':St}(x:Operand)(h:∀t,x = .tmp t->S'.bo.get t=S.bo.get t):S'.ev E x=S.ev E x:=by
 cases x with
 | tmp t=>simp[St.ev];grind
 | _=>rfl
theorem Wh {ops:Array Oper}{nm:Nat}{o:Oper}{S S':St}{d:DE}(h:uQ P E ops.toList nm o S d)(U:S'.bF=S.bF)(C:∀t∈Oper.looksAt ops o,S'.bo.get t=S.bo.get t)(v:∀k∈d.rds,S'.heap.get k=S.heap.get k) :
 uQ P E ops.toList nm o S' d:=by
 obtain⟨D,H⟩:=h;have e : ∀ x ∈ o.op.operands, S'.ev E x = S.ev E x := fun x p => Ri x fun t M => C t (by
  subst M;unfold Oper.looksAt;rw[mem_append];left;rw[mem_filterMap];exact⟨.tmp t,by grind,rfl⟩)
 have s:runs ops.toList S' o.guard=runs ops.toList S o.guard:=by
  unfold runs;cases W:o.guard with
  | none=>rfl
  | some q =>
    obtain⟨j,l⟩:=q;have:gO ops.toList S' j l=gO ops.toList S j l:=by
     unfold gO;cases B:ops.toList[j]? with
     | none=>rfl
     | some I =>
       dsimp only;cases b:I.dst with
       | none=>rfl
       | some t =>
         dsimp only;rw [C t (by
          unfold Oper.looksAt
          grind)]
    omega
 refine⟨?_,?_⟩
 . cases K : o.dst with
   | none=>rfl
   | some t=>rw[K] at D;simp only[cv] at D ⊢;grind
 . rw [s]
   refine H.imp (fun ⟨B,b⟩=>⟨B,?_⟩) id
   unfold act at b ⊢;split at b
   . rename_i f i V w
     rw[w] at e;have J:=e f (by simp[Op.operands,Call.operands])
     have O:i.toList.map (S'.ev E)=i.toList.map (S.ev E):=map_congr_left fun x p=>e x (by simp only[Op.operands,Call.operands,Array.mem_append];grind)
     rw[J,O];rcases b with b|b|b
     rotate_left
     . grind
     . obtain ⟨g, a, m, z, y⟩ := b
       exact .inr (.inr ⟨g,a,m,z,fun L A c=>y L A fun k u=>(c k u).trans (v k u)⟩)
     refine .inl ⟨?_,b.2⟩;obtain⟨g,a,m,n,z,y⟩:=b.1;refine⟨g,a,m,n,z,y.imp (fun ⟨Q,F,N,R⟩=>⟨?_,?_,N,R⟩) id⟩
     . rw [<-Q]
       exact uL fun x p=>KY 20 fun k c=>v k (F x p k c)
     . intro x p k c
       rw[yM 20 (fun k c=>v k (F x p k c))] at c
       grind
   . have T : cc E nm (S'.ev E) o.op = cc E nm (S.ev E) o.op := X4 o.op e
     rw[T];have G:=Rd.sQ (r:=cc E nm (S.ev E) o.op) (fun k c=>v k (b.2 k c))
     refine⟨G.trans b.1,fun k c=>?_⟩
     rw[Rd.sK (fun k c=>v k (b.2 k c))] at c
     grind
structure tM (P:Program)(E:Env)(m:Nat)(c0:Ctx)(a0:Act)(w0:World)(S0:St)(base n:Nat)(D:Nat->Bool)(c:Ctx)(S:St)(a:Act)(w:World):Prop where
 ext:ek m c0 a0 w0 S0.heap c a w S.heap
 i_:S.next=base+n
 iF:m≤base
 bD:c_ P E c S a w
 free:∀j,j<n->D j=false->c.f (base+j)=none
variable {m base n:Nat} {c0 c:Ctx} {w0 w:World} {S0 S:St} {K:AX->St->Prop} {a0 a:Act} {D:Nat->Bool}
theorem Wi (hE:bW P E){ops:Array Oper}{i:Nat}{o:Oper}{d:DE}(ho:ops[i]? = some o)(hin:i<n)(hD:D i=false)(h:uQ P E ops.toList (base+i) o S d)(l:tM P E m c0 a0 w0 S0 base n D c S a w){r:Option Nat}{N:Act->World->Prop}
 (hN:∀c' a' w',tM P E m c0 a0 w0 S0 base n (fun j=>j == i || D j) c' (S.app o d) a' w'->N a' w'):wpOpIn (FR r) 0 P ops (QS P E m c0 a0 w0 S0 K) i N a w:=by
 obtain⟨hd,h⟩:=h;unfold wpOpIn;rw[ho];dsimp only;have hwant:∀b,runs ops.toList S o.guard=some b->Region.wanted o (yielded ops a.tmps)=b:=by
  intro b M;unfold runs at M;cases hg:o.guard with
  | none =>
    rw[hg] at M;simp only[Option.some.injEq] at M;subst M;simp[Region.wanted,hg]
  | some q =>
    obtain⟨j,want⟩:=q;rw[hg] at M;dsimp only at M;exact Hi l.bD hg M
 have hfree:c.f (base+i)=none:=l.free i hin hD;rcases h with⟨hr,u⟩|⟨hr,F,V⟩
 . rw [hwant _ hr, if_pos rfl]
   unfold act at u;split at u
   . rename_i f s ts mb
     rcases u with u|u|u
     rotate_left
     . obtain ⟨g, first, cap, args', K0, ob, v0, hf, hs, ⟨hok, U⟩, hfl, F, V, hnm24⟩ := u
       have H:=l.bD.ev f;rw[hf] at H
       generalize hfv:a.eval f=fv at H
       cases H with
       | @fn _ _ _ _ _ Z us h1 h2 hr1 hr2 =>
         have C:=oU l.bD.ev s.toList;have O:aQ c w (first++s.toList.map (S.ev E)++cap) (Z++s.toList.map a.eval++us):=((aQ.append ⟨h1,hr1⟩ C).append ⟨h2,hr2⟩);have hr':=nJ (c':=c.bare) hs O (fun x v y=>kR l.bD.bu.Ct (fun b M=>M) (fun b M=>(lJ M).elim) 20)
         have z:=U c.bare w _ l.bD.bu.empty (fun _ _=>rfl) hr'
         have G:(execOp a.eval o).run P w = .ok (.enter g (Z++s.toList.map a.eval++us).toArray) w:=by
          have e:Z.toArray++s.map a.eval++us.toArray=(Z++s.toList.map a.eval++us).toArray:=by
           apply Array.ext';simp
          simp only[execOp,mb,resolve,hfv,Deferred.ofValue,Sem.run_bind,Sem.run_pure,Result.andThen_ok,invoke,qJ hok,e]
         refine nT (fun c e=>by grind) (fun row s w'' e=>by grind) ?_
         unfold Oper.wp;rw[G];refine z.mono ?_
         rintro e w' ⟨c1,H1,nx1,ae,t,hw1,_,_,A,rfl,hk0⟩
         obtain⟨c',B,hB,hnmB,hoth,X,Y⟩:=l.bD.bu.EB hfree hnm24 t hw1 hk0 hfl;have hle:c.le c':=⟨fun k p e=>by
          grind,(X 0 (zero_le _)).au⟩
         have hx:∀{x v},Rel c w x v->Rel c' w' x v:=fun hr=>hr.mono hle (fun b M=>t.other b (l.bD.bu.bH b M) lJ)
         have e2:S.app o d=S.put o.dst d.val (S.heap.set 24 (base+i) (some ob)) S.next:=by simp[St.app,V,bk.dH]
         cases e with
         | returned v =>
           have hv:Rel c' w' d.val v:=by
            rcases F with⟨n,sz,rfl,F⟩|⟨rfl,F⟩
            . rw [F]
              cases A with
              | az q1 q2 q3 q4 q5=>rw[hB] at q1;cases q1;exact .az hnmB q2 q3 q4 q5
            . rw [F]
              cases A with
              | cY q1=>rw[hB] at q1;cases q1;exact .cY hnmB
           refine hN c' _ w' ⟨?_,l.i_,l.iF,?_,fun j hj R=>?_⟩
           . rw[e2];exact l.ext.jg (X m (by have:=l.iF;omega)) (put_defers ..)
           . rw [e2]
             exact l.bD.put ((X 0 (zero_le _)).defs l.bD.bu l.bD.defers) hx Y (fun k hk=>by rw[hoth k (by have:=l.i_;omega)];exact l.bD.fresh k hk) hd hv
           . simp only [Bool.or_eq_false_iff, beq_eq_false_iff_ne, ne_eq] at R
             rw[hoth _ aa];exact l.free j hj R.2
         | panicked _=>exact A.elim
         | outgrown=>exact A.elim
     . obtain ⟨g, first, cap, hf, W⟩ := u
       have H:=l.bD.ev f;rw[hf] at H
       generalize hfv:a.eval f=fv at H
       cases H with
       | @fn _ _ _ _ _ Z us h1 h2 hr1 hr2 =>
         obtain⟨hok,U⟩:=W S.heap S.next fun _ _=>rfl
         have C:=oU l.bD.ev s.toList;have O:aQ c w (first++s.toList.map (S.ev E)++cap) (Z++s.toList.map a.eval++us):=((aQ.append ⟨h1,hr1⟩ C).append ⟨h2,hr2⟩);have z:=U c w _ l.bD.bu l.bD.fresh O;have G:(execOp a.eval o).run P w = .ok (.enter g (Z++s.toList.map a.eval++us).toArray) w:=by
          have e:Z.toArray++s.map a.eval++us.toArray=(Z++s.toList.map a.eval++us).toArray:=by
           apply Array.ext';simp
          simp only[execOp,mb,resolve,hfv,Deferred.ofValue,Sem.run_bind,Sem.run_pure,Result.andThen_ok,invoke,qJ hok,e]
         refine nT (fun c e=>by grind) (fun row s w'' e=>by grind) ?_
         unfold Oper.wp;rw[G];refine z.mono ?_
         rintro e w' ⟨c',H',nx',ae,t,Y,hnx,T,A,rfl,rfl,rfl⟩
         have hff:∀k,c'.f k=c.f k:=fun k=>by
          by_cases hk:k<S.next
          . exact t.f k hk
          . rw[T k aa,l.bD.fresh k aa]
         have hle:c.le c':=⟨fun k p e=>by grind,t.au⟩
         have hx:∀{x v},Rel c w x v->Rel c' w' x v:=fun hr=>hr.mono hle (fun b M=>t.other b (l.bD.bu.bH b M) (l.bD.bu.kO M))
         cases e with
         | returned v =>
           refine hN c' _ w' ⟨l.ext.jg (t.less (by have:=l.iF;have:=l.i_;omega)) (put_defers ..),l.i_,l.iF,?_,fun j hj R=>by rw[hff];exact l.free j hj aY⟩
           exact l.bD.put (t.defs l.bD.bu l.bD.defers) hx Y T hd A
         | panicked _=>exact A.elim
         | outgrown=>exact A.elim
     obtain⟨⟨g,first,cap,args',hf,W⟩,V⟩:=u;have H:=l.bD.ev f;rw[hf] at H
     generalize hfv:a.eval f=fv at H
     cases H with
     | @fn _ _ _ _ _ Z us h1 h2 hr1 hr2 =>
       have U:AC P E g (first++s.toList.map (S.ev E)++cap) S.heap S.next fun ae H' nx'=>ae = .ret d.val∧H'=S.heap∧nx'=S.next:=by
        rcases W with⟨q1,_,q3,q4⟩|⟨q1,q3⟩
        . exact AC.flat q1 q3 fun ae hae=>⟨by subst hae;exact q4,hae,rfl,rfl⟩
        . exact AC.pure q1 q3 fun ae hae=>⟨hae,rfl,rfl⟩
       obtain⟨hok,U⟩:=U;have C:=oU l.bD.ev s.toList;have O:aQ c w (first++s.toList.map (S.ev E)++cap) (Z++s.toList.map a.eval++us):=((aQ.append ⟨h1,hr1⟩ C).append ⟨h2,hr2⟩);have z:=U c w _ l.bD.bu l.bD.fresh O;have G:(execOp a.eval o).run P w = .ok (.enter g (Z++s.toList.map a.eval++us).toArray) w:=by
        have e:Z.toArray++s.map a.eval++us.toArray=(Z++s.toList.map a.eval++us).toArray:=by
         apply Array.ext';simp
        simp only[execOp,mb,resolve,hfv,Deferred.ofValue,Sem.run_bind,Sem.run_pure,Result.andThen_ok,invoke,qJ hok,e]
       refine nT (fun c e=>by grind) (fun row s w'' e=>by grind) ?_
       unfold Oper.wp;rw[G];refine z.mono ?_
       rintro e w' ⟨c',H',nx',ae,t,Y,hnx,T,A,rfl,rfl,rfl⟩
       have hff:∀k,c'.f k=c.f k:=fun k=>by
        by_cases hk:k<S.next
        . exact t.f k hk
        . rw[T k aa,l.bD.fresh k aa]
       have hle:c.le c':=⟨fun k p e=>by grind,t.au⟩
       have hx:∀{x v},Rel c w x v->Rel c' w' x v:=fun hr=>hr.mono hle (fun b M=>t.other b (l.bD.bu.bH b M) (l.bD.bu.kO M))
       cases e with
       | returned v =>
         refine hN c' _ w' ⟨?_,l.i_,l.iF,?_,fun j hj R=>by rw[hff];exact l.free j hj aY⟩
         . have : (S.app o d).heap = S.heap := by simp [St.app, St.put, V, bk.dH]
           rw[this];exact l.ext.jg (t.less (by have:=l.iF;have:=l.i_;omega)) (put_defers ..)
         . have := l.bD.put (t.defs l.bD.bu l.bD.defers) hx Y T hd A
           have e2:S.app o d=S.put o.dst d.val S.heap S.next:=by simp[St.app,V,bk.dH]
           grind
       | panicked _=>exact A.elim
       | outgrown=>exact A.elim
   . rename_i mb
     have hnd:∀c,o.op≠.defer c:=fun c e=>by have h1:=u.1;rw[e] at h1;cases h1
     obtain⟨nx,w',c',G,t,Y,hf,hv⟩:=Dg hE l.bD.bu hfree l.bD.ev o u.1;refine nT hnd (fun row s w'' e=>?_) ?_
     . grind
     unfold Oper.wp;rw[G];have hx:∀{x v},Rel c w x v->Rel c' w' x v:=fun hr=>t.rel l.bD.bu hr
     have mid:∀v,Rel c' w' d.val v->tM P E m c0 a0 w0 S0 base n (fun j=>j == i || D j) c' (S.app o d) (a.put o.dst v) w':=fun v hv=>
      ⟨l.ext.jg (t.toM fun k hk=>hf k (by have:=l.iF;omega)) (put_defers ..),l.i_,l.iF,
       l.bD.put (t.defs l.bD.bu l.bD.defers) hx Y (fun k hk=>by rw[hf k (by have:=l.i_;omega)];exact l.bD.fresh k hk) hd hv,
       fun j hj R=>by
        simp only[Bool.or_eq_false_iff,beq_eq_false_iff_ne,ne_eq] at R;rw[hf _ aa];exact l.free j hj R.2⟩
     rcases hv with⟨v,rfl,hv⟩|⟨rfl,hany⟩
     . exact hN _ _ _ (mid v hv)
     . exact hN _ _ _ (mid undef (by rw[show d.val=AV.any from hany];exact .any _))
 . rw [hwant _ hr, if_neg ag]
   refine⟨fun _ _=>trivial,hN c _ w ⟨?_,l.i_,l.iF,?_,fun j hj R=>l.free j hj aY⟩⟩
   . have : (S.app o d).heap = S.heap := by simp [St.app, St.put, V, bk.dH]
     rw[this];exact l.ext.jg (ExtM.refl ..) (put_defers ..)
   . have := l.bD.put l.bD.defers (fun h => h) l.bD.bu l.bD.fresh hd JP
     have e2:S.app o d=S.put o.dst (.ao []) S.heap S.next:=by simp[St.app,V,F,bk.dH]
     grind
end
end Go.Ago
end
section
namespace Go.Ago
open List Nat
def j_ (a b:List Nat):Bool:=a.all fun x=>!b.contains x
def jF (a:List Nat)(i:Nat)(d:DE)(acc:List (Nat×List Nat×List Nat)):Bool:=
 (d.up.all fun p=>ble (p.1+2) 16777216) && acc.all fun (j,r,k)=>comp a i j || (j_ d.keys r && j_ d.keys k && j_ k d.rds)
def mY (P:Program)(E:Env)(nm:Nat)(o:Oper)(S:St)(a:DE->Prop):Prop:=
 cv S o.dst=true∧match o.op with
  | .call { callee := .value f,args,.. }=>(∃v b,mK P E (S.ev E f) (args.toList.map (S.ev E)) S.heap v b∧a ⟨v,[],b⟩)∨(∃v e,zH P E nm (S.ev E f) (args.toList.map (S.ev E)) v e∧a ⟨v,e,[]⟩)∨∃v b e,zI P E (S.ev E f) (args.toList.map (S.ev E)) S.heap v b e∧a ⟨v,e,b⟩
  | g=>(cc E nm (S.ev E) g).gP S.heap (fun d l=>a ⟨d.val,d.up,l⟩) []
def fR (P:Program)(E:Env)(ops:List Oper)(b:Nat)(a:List Nat)(K:St->Prop):List Oper->Nat->St->List (Nat×List Nat×List Nat)->Prop
 | [],_,S,_=>K S
 | o::c,i,S,e=>gate ops S o.guard
  (mY P E (b+i) o S fun d=>jF a i d e=true∧fR P E ops b a K c (i+1) (S.app o d) ((i,d.rds,d.keys)::e))
  (cv S o.dst=true∧fR P E ops b a K c (i+1) (S.app o ⟨.ao [],[],[]⟩) ((i,[],[])::e))
section
variable {P:Program} {E:Env} {ops:Array Oper} {base:Nat} {masks:List Nat} {K:St->Prop} {S0:St}
structure Fact (P:Program)(E:Env)(ops:Array Oper)(base:Nat)(masks:List Nat)(S0:St)(ds:List DE)(i:Nat):Prop where
 ok:∃o d Si,ops[i]? = some o∧ds[i]? = some d∧At ops ds S0 (fun j=>blt j i) Si∧uQ P E ops.toList (base+i) o Si d
 small:∀d,ds[i]? = some d->∀p∈d.up,p.1+1<2 ^ 24
 apart:∀d,ds[i]? = some d->∀(j:Nat) e,j<i->ds[j]? = some e->comp masks i j=true∨(j_ d.keys e.rds=true∧j_ d.keys e.keys=true∧j_ e.keys d.rds=true)
theorem At.ext {e c:List DE}{S:St}{i:Nat}(h:At ops e S0 (fun j=>blt j i) S)(m:∀j,j<i->c[j]? = e[j]?):At ops c S0 (fun j=>blt j i) S:=by
 have b:∀{V:Type} (d a:Nat->Option V) (n:Nat) (v:V),(∀j,j<i->d j=a j)->gR d (fun j=>blt j i) n v=gR a (fun j=>blt j i) n v:=by
  intro V d a n v o
  induction n with
  | zero=>rfl
  | succ n p =>
    simp[gR]
    simp_all
 exact⟨h.bF,h.next,fun t=>(h.bo t).trans (b _ _ _ _ fun j l=>by simp[oS];grind),fun k=>(h.heap k).trans (b _ _ _ _ fun j l=>by simp[mq];grind)⟩
theorem At.VI {g:List DE}{S:St}{i:Nat}{o:Oper}{d:DE}(h:At ops g S0 (fun j=>blt j i) S)(n:ops[i]? = some o)(m:g[i]? = some d)(c:cv S o.dst=true)(l:∀p∈d.up,p.1+1<2 ^ 24) :
 At ops g S0 (fun j=>blt j (i+1)) (S.app o d):=by
 have b:i<ops.size:=(Array.getElem?_eq_some_iff.1 n).1;have q:∀j,j<ops.size->(j == i || blt j i)=blt j (i+1):=by
  intro j _;rw[Bool.eq_iff_iff];simp;omega
 have a:∀j,i<j->blt j i=true->False:=by
  intro j f e;have:j<i:=by simpa using e
  omega
 refine At.congr (D:=fun j=>j == i || blt j i) ⟨h.bF,h.next,fun t=>?_,fun k=>?_⟩ q
 . rw [EJ c, uJ ops.size _ b (fun j f _ e _ => (a j f e).elim), <-h.bo t]
   simp only[oS,n,m]
   grind
 . show (bk.dH S.heap d.up).get k = _
   rw[D3 _ _ _ l,uJ ops.size _ b (fun j f _ e _=>(a j f e).elim),<-h.heap k]
   simp only[mq,m]
   grind
theorem Fact.ext {l c:List DE}{i:Nat}(h:Fact P E ops base masks S0 l i)(f:∀j,j≤i->c[j]? = l[j]?):Fact P E ops base masks S0 c i:=by
 obtain⟨⟨o,d,u,n,t,p,q⟩,r,s⟩:=h;refine⟨⟨o,d,u,n,(f i (ag)).trans t,p.ext fun j m=>f j aa,q⟩,fun d k=>r d ((f i (ag)).symm.trans k),fun d k j e m g=>s d ((f i (ag)).symm.trans k) j e m ((f j aa).symm.trans g)⟩
theorem QJ {nm:Nat}{o:Oper}{S:St}{a:DE->Prop}(h:mY P E nm o S a):cv S o.dst=true∧∃d,act P E nm o S d∧a d:=by
 obtain⟨m,i⟩:=h;refine⟨m,?_⟩;split at i
 . rename_i f l q g
   rcases i with⟨v,b,j,c⟩|⟨v,k,j,c⟩|⟨v,b,k,j,c⟩
   . refine ⟨⟨v, [], b⟩, ?_, c⟩
     unfold act
     grind
   . refine ⟨⟨v, k, []⟩, ?_, c⟩
     unfold act
     grind
   . refine ⟨⟨v, k, b⟩, ?_, c⟩
     unfold act
     grind
 . rename_i g
   obtain⟨e,p,j,c,_,n⟩:=Rd.rZ i;refine⟨⟨e.val,e.up,p⟩,?_,n⟩;unfold act
   simp_all
def Over (P:Program)(E:Env)(ops:Array Oper)(b:Nat)(a:List Nat)(K:St->Prop)(S0:St)(i:Nat)(pre:List DE):Prop:=
 ∃c d,c.length=ops.size∧(∀j,j<i->c[j]? = pre[j]?)∧(∀k,i≤k->k<ops.size->Fact P E ops b a S0 c k)∧At ops c S0 (fun j=>blt j ops.size) d∧K d
theorem EO:∀(f:List Oper) (i:Nat) (S:St) (acc:List (Nat×List Nat×List Nat)) (pre:List DE),ops.toList.drop i=f->pre.length=i->(∀(j:Nat) d,pre[j]? = some d->(j,d.rds,d.keys)∈acc)->
 At ops pre S0 (fun j=>blt j i) S->i≤ops.size->fR P E ops.toList base masks K f i S acc->Over P E ops base masks K S0 i pre
 | [], i, S, acc, pre, u, C, _, L, Y, h => by
   have hi:ops.size=i:=by
    have:=congrArg length u;simp at this;omega
   refine⟨pre,S,aa,fun j t=>rfl,fun k F G=>aa,?_,h⟩
   grind
 | o :: f, i, S, acc, pre, u, C, M, L, _, h => by
   have hi:i<ops.size:=by
    have:=congrArg length u;simp at this;omega
   have O:ops[i]? = some o:=by
    have:(ops.toList.drop i)[0]? = some o:=by rw[u];rfl
    simpa using this
   have r:ops.toList.drop (i+1)=f:=by
    rw[<-drop_drop,u];rfl
   
   have Q:∀d,uQ P E ops.toList (base+i) o S d->jF masks i d acc=true->fR P E ops.toList base masks K f (i+1) (S.app o d) ((i,d.rds,d.keys)::acc)->Over P E ops base masks K S0 i pre:=by
    intro d y l n;have m:∀j,j<i->(pre++[d])[j]? = pre[j]?:=fun j t=>getElem?_append_left aa
    have w:(pre++[d])[i]? = some d:=by rw[getElem?_append_right aa,C];simp
    simp only[jF,Bool.and_eq_true] at l;have D:∀p∈d.up,p.1+1<2 ^ 24:=fun p C=>by
     have:=all_eq_true.1 l.1 p C;have:=le_of_ble_eq_true this;omega
    have x:=L.ext m;obtain ⟨ds, SE, R, N, e3, Z, e5⟩ := EO f (i + 1) (S.app o d) _ (pre ++ [d]) r aY (fun j e t=>by
     grind) (x.VI O w y.1 D) aa n
    refine⟨ds,SE,R,fun j t=>(N j aa).trans (m j t),fun k F G=>?_,Z,e5⟩
    by_cases U:k=i
    . subst U
      have V:Fact P E ops base masks S0 (pre++[d]) k:=by
       refine⟨⟨o,d,S,O,w,x,y⟩,fun W r=>?_,fun W r j e t X=>?_⟩
       . grind
       . grind
      exact V.ext fun j t=>N j aa
    . grind
   have v:runs ops.toList S o.guard=some true->mY P E (base+i) o S (fun d=>jF masks i d acc=true∧fR P E ops.toList base masks K f (i+1) (S.app o d) ((i,d.rds,d.keys)::acc))->Over P E ops base masks K S0 i pre:=fun I h=>by
    obtain⟨F,d,G,T,h4⟩:=QJ h;exact Q d ⟨F,.inl ⟨I,G⟩⟩ T h4
   have H:runs ops.toList S o.guard=some false->cv S o.dst=true∧fR P E ops.toList base masks K f (i+1) (S.app o ⟨.ao [],[],[]⟩) ((i,[],[])::acc)->Over P E ops base masks K S0 i pre:=fun I h=>
    Q ⟨.ao [],[],[]⟩ ⟨h.1,.inr ⟨I,rfl,rfl⟩⟩ (by simp[jF,DE.keys,j_]) h.2
   simp only[fR,gate] at h;cases z:o.guard with
   | none =>
     rw[z] at h;exact v (by rw[z];rfl) h
   | some q =>
     obtain⟨j,A⟩:=q;rw[z] at h;dsimp only at h;cases J:gO ops.toList S j A with
     | none=>grind
     | some b =>
       rw[J] at h;cases B:b with
       | true=>exact v (by rw[z];simp only[runs,J,B]) (h.1 B)
       | false=>exact H (by rw[z];simp only[runs,J,B]) (h.2 B)
theorem A2:∀(l:List Oper) (i:Nat),om l i=true->∀(j:Nat) o,l[j]? = some o->∀e∈o.after,Region.binds .any e=true->e.on<i+j
 | [],_,_,j,o,c=>by grind
 | x :: l, i, h, j, o, c => by
   simp only[om,Bool.and_eq_true] at h;intro e k g;cases j with
   | zero =>
     simp at c;subst c;have:=all_eq_true.1 h.1 e aY
     simp_all
   | succ j =>
     have:=A2 l (i+1) h.2 j o aY e k g;omega
theorem JL (h:om ops.toList 0=true):∀{i j:Nat},Reach ops i j->j<i:=by
 intro i j e
 induction e with
 | one c b a=>have:=A2 _ 0 h _ _ (by simpa using c) _ b a;omega
 | more c b a _ g=>have:=A2 _ 0 h _ _ (by simpa using c) _ b a;omega
theorem wE {a b:List Nat}(h:j_ a b=true){x:Nat}(c:x∈a)(d:x∈b):False:=by
 have:=all_eq_true.1 h x c
 grind
theorem RX (C:om ops.toList 0=true)(A:yQ ops (js ops.toList [])=true){r:List DE}(D:r.length=ops.size)(s:∀k,k<ops.size->Fact P E ops base (js ops.toList []) S0 r k):zL ops r:=by
 refine⟨D,fun i d n p B=>(s i aY).small d n p B,fun i j x y t w z m F G=>?_,fun i j d e k n g m q a=>?_,fun i j h=>JL C h⟩
 . have f := (Array.getElem?_eq_some_iff.1 w).1
   have c:=(Array.getElem?_eq_some_iff.1 z).1;have b:=all_eq_true.1 (all_eq_true.1 A i (mem_range.2 f)) j (mem_range.2 c);simp only[w,z,F,Bool.or_eq_true,beq_iff_eq,Bool.and_eq_true] at b;rcases b with(b|b)|⟨b,o⟩
   . omega
   . exact AN b
   grind
 . have f : i < ops.size := by have := (List.getElem?_eq_some_iff.1 n).1; omega
   have c:j<ops.size:=by have:=(List.getElem?_eq_some_iff.1 g).1;omega
   rcases Nat.lt_or_gt_of_ne m with l|l
   . rcases (s j c).apart e g i d l n with h | ⟨b, o, u⟩
     . exact(AN h).symm
     . exfalso
       rcases a with a|a
       . exact wE u q a
       . exact wE o a q
   . rcases (s i f).apart d n j e l g with h | ⟨b, o, u⟩
     . exact AN h
     . exfalso
       rcases a with a|a
       . exact wE b q a
       . exact wE o q a
theorem c_.congr {c:Ctx}{S S':St}{a:Act}{w:World}(h:c_ P E c S a w)(d:S'.bF=S.bF)(i:S'.next=S.next)(g:∀t,S'.bo.get t=S.bo.get t)(b:∀k,S'.heap.get k=S.heap.get k):c_ P E c S' a w:=
 ⟨h.size.trans d.symm,fun t x e=>h.bo t x aY,h.defers,h.bu.congr b,fun k f=>h.fresh k aa⟩
theorem FL {p p':Nat->Bool}(b:∀j,p' j=true->p j=true):∀(l:List Nat),(l.filter p').length≤(l.filter p).length
 | []=>Nat.le_refl _
 | x :: l => by
   have c:=FL b l
   grind
theorem FM {p p':Nat->Bool}{i:Nat}(b:∀j,p' j=true->p j=true)(c:p i=true)(d:p' i=false):∀(l:List Nat),i∈l->(l.filter p').length<(l.filter p).length
 | [],h=>by grind
 | x :: l, h => by
   simp only[filter_cons]
   by_cases e:x=i
   . subst e
     have:=FL b l
     grind
   . have f:i∈l:=by
      grind
     have g:=FM b c d l f
     grind
theorem ExtM.congr {m:Nat}{c c':Ctx}{w w':World}{H H' K':ai}(h:ExtM m c w H c' w' H')(d:∀j,K'.get j=H'.get j):ExtM m c w H c' w' K':=
 { h with own:=fun b a=>h.own b (Own.congr (fun j=>(d j).symm) a) }
theorem SW.draw {rr:Bool}(hE:bW P E)(Z:P.follows .mixedOrders=true){id:Nat}{K:AX->St->Prop}{S:St}(he:om ops.toList 0=true)(hs:yQ ops (js ops.toList [])=true)
 (h:fR P E ops.toList S.next (js ops.toList []) (K .normal) ops.toList 0 { S with next:=S.next+ops.size } []):SW P E rr (.region id ops true) K S:=by
 intro r hrr m hm c a w l;obtain⟨ds,SE,hl,_,hf,C,hK⟩:=EO (S0:={ S with next:=S.next+ops.size }) ops.toList 0 _ [] [] rfl rfl (fun j d G=>by grind) (At.congr (At.start ops [] _) fun j _=>rfl) (zero_le _) h
 have hF:=RX he hs hl fun k hk=>hf k (zero_le _) hk
 refine wpIn_region_any Z ?_;have key:∀(n:Nat) (f:Array Bool) (I:Ctx) (u:St) (H:Act) (F:World),f.size=ops.size->((List.range ops.size).filter (fun i=>!f.getD i true)).length≤n->
  zJ ops (fun i=>f.getD i false)->At ops ds { S with next:=S.next+ops.size } (fun i=>f.getD i false) u->tM P E m c a w S S.next ops.size (fun i=>f.getD i false) I u H F->
  wpAnyIn (FR r) 0 P .any ops (QS P E m c a w S K) n f H F:=by
  have W:∀(f:Array Bool),f.size=ops.size->∀i,i<ops.size->f.getD i true=f.getD i false:=by
   intro f q i L;simp[Array.getD_eq_getD_getElem?,Array.getElem?_eq_getElem (show i<f.size by omega)]
  have fin:∀(f:Array Bool) (I:Ctx) (u:St) (H:Act) (F:World),f.size=ops.size->Region.ready .any ops f=[]->
   At ops ds { S with next:=S.next+ops.size } (fun i=>f.getD i false) u->tM P E m c a w S S.next ops.size (fun i=>f.getD i false) I u H F->QS P E m c a w S K .normal H F:=by
   intro f I u H F q B Q M;have hall:∀j,j<ops.size->f.getD j false=true:=by
    intro j
    induction j using Nat.strongRecOn with
    | _ j ih =>
      intro G;cases X:f.getD j false with
      | true=>rfl
      | false =>
        exfalso
        have hmem:j∈Region.ready .any ops f:=by
         unfold Region.ready;rw[mem_filter];refine⟨mem_range.2 G,?_⟩;rw[W f q j G,X,Array.getElem?_eq_getElem G];simp only[Bool.not_false,Bool.true_and,Option.map_some,Option.getD_some,Array.all_eq_true'];intro e y;cases A:Region.binds .any e with
         | false=>rfl
         | true =>
           have hlt:=JL he (Reach.one (Array.getElem?_eq_getElem G) y A)
           grind
        grind
   have J:=Q.congr (D':=fun j=>blt j ops.size) fun j G=>by
    simp_all
   have hsl:∀t,SE.bo.get t=u.bo.get t:=fun t=>(C.bo t).trans (J.bo t).symm
   have hhp:∀k,SE.heap.get k=u.heap.get k:=fun k=>(C.heap k).trans (J.heap k).symm
   exact⟨I,SE,.normal,⟨M.ext.toExtM.congr hhp,M.ext.gd⟩,by rw[C.next];simp,M.bD.congr (C.bF.trans J.bF.symm) (C.next.trans J.next.symm) hsl hhp,trivial,hK⟩
  intro n
  induction n with
  | zero =>
    intro f I u H F q hcnt hC Q M;have B:Region.ready .any ops f=[]:=by
     have h0:(List.range ops.size).filter (fun i=>!f.getD i true)=[]:=eq_nil_of_length_eq_zero aa
     unfold Region.ready;rw[filter_eq_nil_iff] at h0 ⊢;intro i L hc;simp only[Bool.and_eq_true] at hc;exact h0 i L hc.1
    exact⟨B,fin f I u H F q B Q M⟩
  | succ n ih =>
    intro f I u H F q hcnt hC Q M;refine⟨fun B=>fin f I u H F q B Q M,fun i L=>?_⟩
    unfold Region.ready at L;rw[mem_filter] at L;obtain⟨z,L⟩:=L;have z:i<ops.size:=mem_range.1 z;simp only[Bool.and_eq_true,Bool.not_eq_true'] at L;obtain⟨hi1,R⟩:=L;have X:f.getD i false=false:=by rw[<-W f q i z];exact hi1
    obtain⟨⟨o,d,Si,Y,hd,V,hok⟩,_,_⟩:=hf i (zero_le _) z;have U:∀e∈o.after,Region.binds .any e=true->f.getD e.on false=true:=by
     intro e y A;rw[Y] at R;simp only[Option.map_some,Option.getD_some,Array.all_eq_true'] at R;have:=R e y;rw[A] at this
     simpa using this
    have hpre:∀j,Reach ops i j->f.getD j false=true:=by
     intro j hr;cases hr with
     | one T y A=>grind
     | more T y A hr'=>rw[Y] at T;cases T;exact hC _ _ hr' (U _ y A)
    obtain⟨ag1,ag2⟩:=Q.agree hF hC X hpre Y hd V;have O:=Wh hok (Q.bF.trans V.bF.symm) ag1 ag2;have hget:∀j,(f.setIfInBounds i true).getD j false=(j == i || f.getD j false):=by
     intro j;simp only[Array.getD_eq_getD_getElem?,Array.getElem?_setIfInBounds]
     by_cases G:i=j
     . grind
     . grind
    have hgett:∀j,(f.setIfInBounds i true).getD j true=(j == i || f.getD j true):=by
     intro j;simp only[Array.getD_eq_getD_getElem?,Array.getElem?_setIfInBounds]
     by_cases G:i=j
     . grind
     . grind
    refine Wi hE Y z X O M fun c2 a2 w2 hM2=>?_
    have N:(fun j=>(f.setIfInBounds i true).getD j false)=(fun j=>j == i || f.getD j false):=funext hget
    refine ih _ c2 (u.app o d) a2 w2 aY ?_ ?_ ?_ ?_
    . have := FM (p := fun j => !f.getD j true) (p' := fun j => !(f.setIfInBounds i true).getD j true) (i := i) (fun j G=>by
       grind) aY ag (List.range ops.size) (mem_range.2 z)
      omega
    . rw [N]
      intro a b hr A;simp only[Bool.or_eq_true,beq_iff_eq] at A ⊢
      right
      rcases A with rfl|A
      . grind
      . exact hC a b hr A
    . rw[N];exact Q.step hF hC X Y hd O.1
    grind
 have s:(fun i=>(Array.replicate ops.size false).getD i false)=(fun _=>false):=by
  funext i
  simp only[Array.getD_eq_getD_getElem?,Array.getElem?_replicate];split<;>rfl
 refine key ops.size (Array.replicate ops.size false) c { S with next:=S.next+ops.size } a _ ag ?_ ?_ ?_ ?_
 . grind
 . rw[s];intro i j _ h;cases h
 . rw[s];exact At.start _ _ _
 . rw [s]
   exact⟨⟨(ExtM.refl m c w S.heap).drew,Gd.refl w a⟩,rfl,hm,⟨l.size,fun t x e=>by obtain⟨v,h1,h2⟩:=l.bo t x e;exact⟨v,h1,h2.drew⟩,l.defers.mono (Nat.le_refl _) (fun D _ h1 h2=>⟨h1,h2⟩),l.bu.drew,fun k hk=>l.fresh k aY⟩,
    fun j G _=>l.fresh _ aa⟩
end
end Go.Ago
end
namespace Go.Ago
open List Nat
def C2:AV->Value->Bool
 | .bool a,.bool b=>a == b
 | .int k a,.int c b=>decide (k=c) && a == b
 | .str l,.string s=>l == s.data.toList
 | .dF,.pointer none=>true
 | .ah,.slice none 0 0=>true
 | .fO,.map none=>true
 | .cZ,.nilFunc=>true
 | .eH,.nilIface=>true
 | _,_=>false
theorem Xk {x:AV}{v:Value}(h:C2 x v=true)(c:Ctx)(w:World):Rel c w x v∧x.one=true:=by
 unfold C2 at h;split at h
 . rw[eq_of_beq h];exact⟨.bool _,rfl⟩
 . simp only [Bool.and_eq_true, decide_eq_true_eq, beq_iff_eq] at h
   rw[h.1,h.2];exact⟨.int _ _,rfl⟩
 . rename_i l s
   have:l=s.data.toList:=by simpa using h
   subst this;have:=Rel.str (c:=c) (w:=w) s.data.toList;exact⟨aa,rfl⟩
 . exact⟨.dF,rfl⟩
 . exact⟨.ah,rfl⟩
 . exact⟨.fO,rfl⟩
 . exact⟨.cZ,rfl⟩
 . exact⟨.eH,rfl⟩
 grind
def oV:List AV->List Value->Bool
 | [],[]=>true
 | x::b,v::c=>C2 x v && oV b c
 | _,_=>false
theorem uW:∀{xs:List AV} {vs:List Value},oV xs vs=true->∀c w,aQ c w xs vs∧∀x∈xs,x.one=true
 | [],[],_,c,w=>⟨.nil,ag⟩
 | x :: xs, v :: vs, h, c, w => by
   simp[oV] at h;obtain⟨d,e⟩:=Xk h.1 c w;obtain⟨b,f⟩:=uW h.2 c w;exact⟨.cons d b,fun y g=>by
    grind⟩
 | [],_::_,h,_,_=>by simp[oV] at h
 | _::_,[],h,_,_=>by simp[oV] at h
def rS (P:Program):List Field->List (Nat×Nat×TypeId)->Bool
 | [],[]=>true
 | f::c,(b,d,t)::l=>f.offset == b && f.type == t && (match P.info? t with|some i=>i.size == d|none=>false) && f.name != "_" && rS P c l
 | _,_=>false
theorem GD {P:Program}:∀{c:List Field} {l:List (Nat×Nat×TypeId)},rS P c l=true->c.length=l.length∧∀(i off sz:Nat) (t:TypeId),l[i]? = some (off,sz,t)->
 ∃f b,c[i]? = some f∧f.offset=off∧f.type=t∧P.info? t=some b∧b.size=sz∧f.name ≠ "_"
 | [],[],_=>⟨rfl,fun i _ _ _ h=>by grind⟩
 | f :: c, (off, sz, t) :: l, h => by
   simp only[rS,Bool.and_eq_true,beq_iff_eq] at h;obtain⟨⟨⟨⟨e,k⟩,g⟩,j⟩,d⟩:=h;obtain⟨m,n⟩:=GD d
   grind
 | [],_::_,h=>by simp[rS] at h
 | _::_,[],h=>by simp[rS] at h
def DO (P:Program):TypeDesc->TD->Bool
 | .struct c,.struct l=>rS P c.toList l
 | .slice e,.slice a=>e == a
 | .array n e,.array d a=>n == d && e == a
 | .int k,.int b=>decide (k=b)
 | .bool,.bool=>true
 | .string,.string=>true
 | .interface _,.iface=>true
 | .pointer _,.ptr=>true
 | .func _ _ _,.func=>true
 | .map k e,.map b a=>k == b && e == a
 | .interface _,.other=>false
 | _,.other=>true
 | _,_=>false
theorem Zw {P:Program}{d:TypeDesc}{t:TD}(h:DO P d t=true):ry P d t:=by
 unfold DO at h;split at h
 . rename_i b l
   obtain⟨g,m⟩:=GD h;exact⟨b,rfl,aa,fun i f j t e=>by
    grind⟩
 . rw[eq_of_beq h];rfl
 . simp only[Bool.and_eq_true,beq_iff_eq] at h;rw[h.1,h.2];rfl
 . rename_i k c
   have:k=c:=by simpa using h
   rw[this];rfl
 . rfl
 . rfl
 . exact⟨_,rfl⟩
 . exact⟨_,rfl⟩
 . exact⟨_,_,_,rfl⟩
 . simp only[Bool.and_eq_true,beq_iff_eq] at h;rw[h.1,h.2];rfl
 . cases h
 . assumption
 grind
def yZ (P:Program)(t:TypeId)(b:TI):Bool:=
 match P.info? t,P.underlying t with
 | some a,some d=>a.size == b.size && a.bytes == b.bytes && b.agg == xj d && DO P d b.desc && b.zero.length == b.size &&
  (match a.zero with
   | some (.agg c)=>b.agg && oV b.zero c.toList
   | some z=>!b.agg && oV b.zero [z]
   | none=>false)
 | _,_=>false
theorem ZD {P:Program}{t:TypeId}{b:TI}(h:yZ P t b=true)(C:b.kF=true->P.eqGuardType P.depth t=false∧(∀p,b.desc = .struct p->P.stoodInHeld t=false)):pG P t b:=by
 refine⟨?_,C⟩;unfold yZ at h;split at h
 . rename_i a d m u
   simp only[Bool.and_eq_true,beq_iff_eq] at h;obtain⟨⟨⟨⟨⟨r,s⟩,B⟩,n⟩,o⟩,f⟩:=h;have g:∀(z:Value) (j:List Value),z.cells.toList=j->oV b.zero j=true->(∀c w,Rel c w (match b.agg with|true => .agg b.zero|false=>b.zero.headD .any) z)->a.zero=some z->
    ∃a d z,P.info? t=some a∧P.underlying t=some d∧a.size=b.size∧a.bytes=b.bytes∧b.agg=xj d∧ry P d b.desc∧a.zero=some z ∧
     (∀c w,aQ c w b.zero z.cells.toList)∧b.zero.length=b.size∧(∀x∈b.zero,x.one=true)∧(∀c w,Rel c w (match b.agg with|true => .agg b.zero|false=>b.zero.headD .any) z):=fun z j i l v y=>
    ⟨a,d,z,m,u,r,s,B,Zw n,y,fun c w=>by rw[i];exact(uW l c w).1,o,(uW l ⟨fun _=>none,fun _=>False⟩ default).2,v⟩
   split at f
   . rename_i A i
     simp only[Bool.and_eq_true] at f;refine g _ A.toList rfl f.2 (fun c w=>?_) i
     rw[f.1];have:=(uW f.2 c w).1;have G:=Rel.agg this.1 this.2;omega
   . rename_i z D i
     simp only[Bool.and_eq_true,Bool.not_eq_true'] at f;have k:z.cells.toList=[z]:=by cases z<;>first|rfl|grind
     refine g z [z] k f.2 (fun c w=>?_) i
     rw[f.1];have:=(uW f.2 c w).1;obtain⟨x,E⟩:∃x,b.zero=[x]:=by
      have F:=this.1
      match q:b.zero,F with
      | [x],_=>simp
     rw[E] at this ⊢;exact this.2 0 x z rfl rfl
   grind
 grind
def xz:List (Nat×TI)->Tr TI->Tr TI
 | [],t=>t
 | (k,i)::l,t=>xz l (t.ins 24 k (some i))
theorem IA:∀(l:List (Nat×TI)) (t:Tr TI) (k:Nat) (i:TI),(l.all fun p=>ble (p.1+2) 16777216)=true->(xz l t).get k=some i->(k,i)∈l∨t.get k=some i
 | [],t,k,i,_,h => .inr h
 | (j, x) :: l, t, k, i, b, h => by
   simp only[all_cons,Bool.and_eq_true] at *;have c:j+1<2 ^ 24:=Nat.lt_of_lt_of_le (ag) (Nat.le_trans (le_of_ble_eq_true b.1) ab);rcases IA l _ k i b.2 h with h|h
   . grind
   rw[Tr.Sf _ j _ t k c] at h
   grind
theorem Q4 {P:Program}{a:Tr TI}{l:List (Nat×TI)}{G:eZ}(c:a=xz l .nil)(d:(l.all fun p=>ble (p.1+2) 16777216)=true)(e:(l.all fun p=>yZ P p.1 p.2)=true)
 (f:∀p∈l,p.2.kF=true->P.eqGuardType P.depth p.1=false∧(∀b,p.2.desc = .struct b->P.stoodInHeld p.1=false)):bW P ⟨a.get,G⟩:=by
 refine⟨fun t i h=>?_⟩
 rw[c] at h;rcases IA l _ t i d h with h|h
 . exact ZD (all_eq_true.1 e _ h) (f _ h)
 cases h
end Go.Ago
section
namespace Go.Ago
open List Nat
def St.at_ (S:St)(nx:Nat):St:={ S with next:=nx }
inductive RR where
 | ok (x:AX) (S:St)
 | no (why:Nat)
inductive R1 where
 | next (S:St)
 | aR (v:AV) (S:St)
 | no (why:Nat)
section
variable (P:Program) (E:Env)
def back (c:Func)(S:St)(b:Option Tmp):RR->R1
 | .ok .normal a | .ok .ret a => match ij E c a with
   | some v => match cv S b with
     | true => .next (S.put b v a.heap a.next)
     | false => .no 3
   | none => .no 4
 | .ok (.aR v) a => .aR v (S.put none .any a.heap a.next)
 | .ok _ _ => .no 5
 | .no n => .no n
end
end Go.Ago
end
namespace Go.Ago
open List Nat
theorem PC.qw {P:Program}{E:Env}{g:FuncId}{args:List AV}{Q:AE->Prop}(b:rf P g)
 (h:∀c w vs,aN E.bR c w .nil->aQ c w args vs->Calls P g vs.toArray w fun e w'=>w'=w∧∃a,lS c w a e∧Q a):PC P E g args Q:=by
 refine⟨b,fun c w vs f d j=>(h c w _ d j).mono ?_⟩
 rintro e w' ⟨rfl,a,k,i⟩
 exact⟨c,a,Ext.refl _ _ _,f,d,k,i⟩
theorem PC.mono {P:Program}{E:Env}{g:FuncId}{args:List AV}{Q b:AE->Prop}(h:PC P E g args Q)(e:∀a,Q a->b a):PC P E g args b:=
 ⟨h.1,fun c w p i j k=>(h.2 c w _ i j k).mono fun _ _ ⟨f,a,m,l,n,o,d⟩=>⟨f,a,m,l,n,o,e _ d⟩⟩
end Go.Ago
