/-
  Part B06: lemmas, each with its own conditions.
-/
import Derived.KernelRfl
import Derived.Test.YthaolifcglpkdaaGreatDoorProg
import Derived.Test.YthaolifcglpkdaaGreatDoorB05
set_option maxRecDepth 100000
set_option maxHeartbeats 0
set_option linter.all false
section
namespace Go.Ago
open List Nat
structure DE where
 val:AV
 up:List (Nat×Option an)
 rds:List Nat
def DE.keys (d:DE):List Nat:=d.up.map (·.1)
section order
variable {V:Type}
def gS (wv:Nat->Option V)(D:Nat->Bool):Nat->V->V
 | 0,v=>v
 | n+1,v=>if D n then (match wv n with|some x=>x|none=>gS wv D n v) else gS wv D n v
theorem uS {wv:Nat->Option V}{D D':Nat->Bool}:∀(n:Nat) (v:V),(∀j,j<n->wv j≠none->D j=D' j)->gS wv D n v=gS wv D' n v
 | 0,_,_=>rfl
 | n + 1, v, h => by
   simp[gS];rw[uS n v fun j b=>h j aa]
   grind
theorem uR {wv:Nat->Option V}{D:Nat->Bool}{i:Nat}:∀(n:Nat) (v:V),i<n->(∀j,i<j->j<n->D j=true->wv j≠none->wv i=none)->
 gS wv (fun j=>j == i || D j) n v=match wv i with|some x=>x|none=>gS wv D n v
 | 0,_,h,_=>aa
 | n + 1, v, h, d => by
   by_cases f:i=n
   . simp only [gS, if_true]
     have:gS wv (fun j=>j == i || D j) i v=gS _ D i v:=uS i v fun j g _=>by
      have:(j == i)=false:=by grind
      grind
     grind
   . have b : i < n := aa
     have k:=uR n v b fun j e l=>d j e aa
     have c:=aa;simp only[gS,c]
     grind
theorem Ii {wv:Nat->Option V}{D:Nat->Bool}{i:Nat}(n:Nat)(v:V)(hi:D i=false)(h:∀j,j<n->j≠i->wv j≠none->D j=blt j i):gS wv D n v=gS wv (fun j=>blt j i) n v:=
 uS n v fun j b c=>by
  by_cases e:j=i
  . cases a:blt j j<;>simp_all
  grind
end order
def oQ (ops:Array Oper)(a:List DE)(t:Nat)(i:Nat):Option (Option AV):=
 match ops[i]?,a[i]? with
 | some o,some d=>if o.dst=some t then some (some d.val) else none
 | _,_=>none
def o7:List (Nat×Option an)->Nat->Option (Option an)
 | [],_=>none
 | (j, o) :: l, k => match o7 l k with
   | some x=>some x
   | none=>if j=k then some o else none
def mo (a:List DE)(k:Nat)(i:Nat):Option (Option an):=
 match a[i]? with
 | some d=>o7 d.up k
 | none=>none
theorem Ej:∀(l:List (Nat×Option an)) (H:aj) (k:Nat),(∀p∈l,p.1+1<2 ^ 24)->(bo.dK H l).get k=match o7 l k with|some o=>o|none=>H.get k
 | [],H,k,_=>rfl
 | (j, o) :: l, H, k, h => by
   simp[bo.dK,o7];rw[Ej l _ k fun p b=>h p bj]
   cases o7 l k with
   | some x=>rfl
   | none =>
     rw[Tr.eQ _ j o H k (h (j,o) ag)]
     grind
theorem zz:∀{l:List (Nat×Option an)} {k:Nat},o7 l k≠none->k∈l.map (·.1)
 | [],k,h=>absurd rfl h
 | (j, o) :: l, k, h => by
   simp[o7] at h;cases e:o7 l k with
   | some x=>exact zbO _ (zz bj)
   | none =>
     grind
structure At (ops:Array Oper)(ds:List DE)(S0:St)(D:Nat->Bool)(S:St):Prop where
 bL:S.bL=S0.bL
 next:S.next=S0.next
 bu:∀t,S.bu.get t=gS (oQ ops ds t) D ops.size (S0.bu.get t)
 heap:∀k,S.heap.get k=gS (mo ds k) D ops.size (S0.heap.get k)
theorem Cp {V:Type}{wv:Nat->Option V}:∀(n:Nat) (v:V),gS wv (fun _=>false) n v=v
 | 0,_=>rfl
 | n+1,v=>Cp n v
theorem At.start (ops:Array Oper)(a:List DE)(S0:St):At ops a S0 (fun _=>false) S0:=⟨rfl,rfl,fun _=>(Cp _ _).symm,fun _=>(Cp _ _).symm⟩
def St.app (S:St)(o:Oper)(d:DE):St:=S.put o.dst d.val (bo.dK S.heap d.up) S.next
theorem EY {S:St}{o:Oper}{d:DE}(b:cv S o.dst=true)(t:Nat):(S.app o d).bu.get t=if o.dst=some t then some d.val else S.bu.get t:=by
 unfold St.app St.put;cases h:o.dst with
 | none=>simp
 | some e =>
   rw[h] at b;simp only[cv,zbe] at *;have a:e+1<2 ^ 24:=zbJ (ag) (zbu (zbb b.2) ab);rw[Tr.eQ _ e _ _ t a]
   grind
structure zZ (ops:Array Oper)(ds:List DE):Prop where
 len:ds.length=ops.size
 small:∀(i:Nat) d,ds[i]? = some d->∀p∈d.up,p.1+1<2 ^ 24
 slot:∀(i j:Nat) x y t,ops[i]? = some x->ops[j]? = some y->i≠j->x.dst=some t->(t∈Oper.looksAt ops y∨y.dst=some t)->Reach ops i j∨Reach ops j i
 mem:∀(i j:Nat) d e k,ds[i]? = some d->ds[j]? = some e->i≠j->k∈d.keys->(k∈e.rds∨k∈e.keys)->Reach ops i j∨Reach ops j i
 back:∀i j,Reach ops i j->j<i
def zX (ops:Array Oper)(D:Nat->Bool):Prop:=∀i j,Reach ops i j->D i=true->D j=true
section
variable {ops:Array Oper} {ds:List DE} {S0 S:St} {D:Nat->Bool} {i:Nat} {o:Oper} {d:DE}
theorem At.step (w:zZ ops ds)(z:zX ops D)(v:At ops ds S0 D S)(hi:D i=false)(u:ops[i]? = some o)(g:ds[i]? = some d)(l:cv S o.dst=true) :
 At ops ds S0 (fun j=>j == i || D j) (S.app o d):=by
 have m:i<ops.size:=(zb6.1 u).1;have r:∀j,i<j->D j=true->¬(Reach ops i j∨Reach ops j i):=by
  intro j s a h;rcases h with h|h
  . have:=w.back i j h;omega
  . have:=z j i h a;grind
 refine⟨v.bL,v.next,fun t=>?_,fun k=>?_⟩
 . rw [EY l, uR ops.size _ m, <-v.bu t]
   . simp only [oQ, u, g]
     grind
   . intro j s n a p
     cases f:oQ ops ds t i with
     | none=>rfl
     | some x =>
       exfalso
       simp only[oQ,u,g] at f;have B:o.dst=some t:=by
        by_cases e:o.dst=some t
        . exact e
        . grind
       have q:ops[j]? = some ops[j]:=zbS n;have A:ops[j].dst=some t:=by
        simp only[oQ,q] at p;cases b:ds[j]? with
        | none=>grind
        | some y =>
          grind
       exact r j s a (w.slot i j o _ t u q aa B (.inr A))
 . show (bo.dK S.heap d.up).get k = _
   rw[Ej _ _ _ (w.small i d g),uR ops.size _ m,<-v.heap k]
   . simp only [mo, g]
     grind
   . intro j s n a p
     cases f:mo ds k i with
     | none=>rfl
     | some x =>
       exfalso
       simp only[mo,g] at f;cases b:ds[j]? with
       | none=>simp only[mo,b] at p;grind
       | some y =>
         simp only[mo,b] at p;exact r j s a (w.mem i j d y k g b aa (zz bj) (.inr (zz p)))
theorem At.agree {q:St}(l:zZ ops ds)(u:zX ops D)(r:At ops ds S0 D S)(hi:D i=false)(s:∀j,Reach ops i j->D j=true)(B:ops[i]? = some o)(E:ds[i]? = some d)
 (f:At ops ds S0 (fun j=>blt j i) q):(∀t∈Oper.looksAt ops o,S.bu.get t=q.bu.get t)∧(∀k∈d.rds,S.heap.get k=q.heap.get k):=by
 have b:∀j,j≠i→(Reach ops j i∨Reach ops i j)->D j=blt j i:=by
  intro j p h;rcases h with h|h
  . have n := l.back j i h
    have A:blt j i=false:=by
     cases v:blt j i with
     | false=>rfl
     | true => have := by simpa using v
               omega
    rw[A];cases w:D j with
    | false=>rfl
    | true=>have:=u j i h w;grind
  have n:=l.back i j h
  simp_all
 refine⟨fun t x=>?_,fun k y=>?_⟩
 . rw [r.bu t, f.bu t]
   refine Ii _ _ hi fun j p a e=>b j a ?_
   have g:=zbS p;have C:ops[j].dst=some t:=by
    simp[oQ,g] at e
    grind
   exact l.slot j i _ o t g B a C (.inl x)
 rw[r.heap k,f.heap k];refine Ii ops.size _ hi fun j p a e=>b j a ?_
 cases c:ds[j]? with
 | none=>simp only[mo,c] at e;grind
 | some z =>
   simp only[mo,c] at e;exact l.mem j i z d k c E a (zz e) (.inl y)
theorem At.congr {D':Nat->Bool}(a:At ops ds S0 D S)(h:∀j,j<ops.size->D j=D' j):At ops ds S0 D' S:=
 ⟨a.bL,a.next,fun t=>(a.bu t).trans (uS _ _ fun j b _=>h j b),fun k=>(a.heap k).trans (uS _ _ fun j b _=>h j b)⟩
end
end Go.Ago
end
section
namespace Go.Ago
open List Nat
def mI (P:Program)(E:Env)(f:AV)(args:List AV)(H:aj)(v:AV)(rds:List Nat):Prop:=
 ∃g b c a,f = .fn (.func g) b c ∧
  ((aM (snap H 20) (b ++ args ++ c) = some a ∧ (∀ x ∈ b ++ args ++ c, ∀ k ∈ cC H 20 x, k ∈ rds) ∧ PC P E g a (· = .ret v) ∧ v.flat = true) ∨
   (aM (snap .nil 20) (b++args++c)=some a∧PC P E g a (· = .ret v)))
theorem mI.pure {P:Program}{E:Env}{g:FuncId}{a cap args args':List AV}{H:aj}{v:AV}(b:aM (snap .nil 20) (a++args++cap)=some args')(h:PC P E g args' (· = .ret v)) :
 mI P E (.fn (.func g) a cap) args H v []:=⟨g,a,cap,args',rfl,.inr ⟨b,h⟩⟩
theorem mI.flat {P:Program}{E:Env}{g:FuncId}{a cap args args':List AV}{H:aj}{v:AV}(c:aM (snap H 20) (a++args++cap)=some args')(h:PC P E g args' (· = .ret v))(d:v.flat=true) :
 mI P E (.fn (.func g) a cap) args H v ((a++args++cap).flatMap (cC H 20)):=
 ⟨g,a,cap,args',rfl,.inl ⟨c,fun x e _ b=>mem_flatMap.2 ⟨x,e,b⟩,h,d⟩⟩
def zV (P:Program)(E:Env)(nm:Nat)(f:AV)(args:List AV)(v:AV)(j:List (Nat×Option an)):Prop:=
 ∃g a c b d h e,f = .fn (.func g) a c∧aM (snap .nil 20) (a++args++c)=some b ∧
  AC P E g b .nil 0 (fun k l _=>k = .ret e∧l.get d=some h)∧vH h ∧
  ((∃n i,e = .ay d 0 n i∧v = .ay nm 0 n i)∨(e = .cX d∧v = .cX nm))∧j=[(nm,some h)]∧nm+1<2 ^ 24
def zW (P:Program)(E:Env)(f:AV)(args:List AV)(H:aj)(v:AV)(rds:List Nat)(h:List (Nat×Option an)):Prop:=
 ∃g a b,f = .fn (.func g) a b∧∀e c,(∀k∈rds,e.get k=H.get k)->AC P E g (a++args++b) e c fun i j d=>i = .ret v∧j=bo.dK e h∧d=c
def runs (ops:List Oper)(S:St)(g:Option (Nat×Bool)):Option Bool:=
 match g with
 | none=>some true
 | some (j,a)=>gO ops S j a
def act (P:Program)(E:Env)(nm:Nat)(o:Oper)(S:St)(d:DE):Prop:=
 match o.op with
 | .call { callee := .value f,args,.. }=>(mI P E (S.ev E f) (args.toList.map (S.ev E)) S.heap d.val d.rds∧d.up=[])∨zV P E nm (S.ev E f) (args.toList.map (S.ev E)) d.val d.up∨zW P E (S.ev E f) (args.toList.map (S.ev E)) S.heap d.val d.rds d.up
 | b=>(cf E nm (S.ev E) b).run S.heap=some (.inl ⟨d.val,d.up⟩)∧∀k∈(cf E nm (S.ev E) b).rds S.heap,k∈d.rds
def uX (P:Program)(E:Env)(ops:List Oper)(nm:Nat)(o:Oper)(S:St)(d:DE):Prop:=
 cv S o.dst=true∧((runs ops S o.guard=some true∧act P E nm o S d)∨(runs ops S o.guard=some false∧d.val = .ao []∧d.up=[]))
section
variable {P:Program} {E:Env}
theorem Yx {E:Env}{nm:Nat}{ρ e:Operand->AV}(B:Op)(h:∀x∈B.operands,ρ x=e x):cf E nm ρ B=cf E nm e B:=by
 cases B<;>simp only[Op.operands] at h<;>try rfl
 case move x=>simp only[cf];grind
 case makeMap t r=>cases r<;>rfl
 case lookup t x i ok=>simp only[cf];grind
 case mapUpdate t m k v=>simp only[cf];grind
 case entry x=>simp only[cf];grind
 case assign x=>simp only[cf];grind
 case pick a b d=>simp only[cf];grind
 case box t x=>simp only[cf];grind
 case build t ps=>
  simp only[cf]
  congr 1
  apply zbZ
  grind
 case buildSlice t n ps=>
  simp only[cf]
  congr 1
  apply zbZ
  grind
 case load t a=>simp only[cf];grind
 case store t a v=>simp only[cf];grind
 case nilCheck x=>simp only[cf];grind
 case binOp B t x y t2=>simp only[cf];grind
 case unOp B t x=>simp only[cf];grind
 case convert s d x=>simp only[cf];grind
 case makeInterface t x=>simp only[cf];grind
 case makeFunc f xs ys=>
  simp only[cf]
  simp_all
 case makeSlice t l k=>simp only[cf];grind
 case slice t x lo hi mx=>
  simp only[cf];have hopt:∀(o:Option Operand),(∀y,o=some y->ρ y=e y)->o.map ρ=o.map e:=by
   intro o ho;cases o with
   | none=>rfl
   | some y=>grind
  grind
 case fieldAddr t x f=>simp only[cf];grind
 case range t x=>simp only[cf];grind
 case next x b=>simp only[cf];grind
 case field t x f=>simp only[cf];grind
 case indexAddr t x i=>simp only[cf];grind
 case index t x i=>simp only[cf];grind
 case typeAssert x st t ok=>simp only[cf];grind
 case extract x i=>simp only[cf];grind
 case panic x=>simp only[cf];grind
 case call cl=>
  obtain⟨g,p,ts⟩:=cl;cases g<;>try rfl
  simp only[cf];have h1:p.toList.map ρ=p.toList.map e:=zbZ fun x hx=>h x (by simp only[Call.operands,Array.mem_append];grind)
  rw[h1]
theorem RQ {S S':St}(x:Operand)(h:∀t,x = .tmp t->S'.bu.get t=S.bu.get t):S'.ev E x=S.ev E x:=by
 cases x with
 | tmp t=>simp[St.ev];grind
 | _=>rfl
theorem WQ {ops:Array Oper}{nm:Nat}{o:Oper}{S S':St}{d:DE}(h:uX P E ops.toList nm o S d)(U:S'.bL=S.bL)(C:∀t∈Oper.looksAt ops o,S'.bu.get t=S.bu.get t)(v:∀k∈d.rds,S'.heap.get k=S.heap.get k) :
 uX P E ops.toList nm o S' d:=by
 obtain⟨D,H⟩:=h;have e : ∀ x ∈ o.op.operands, S'.ev E x = S.ev E x := fun x p => RQ x fun t M => C t (by
  subst M;unfold Oper.looksAt;rw[zbL];left;rw[mem_filterMap];exact⟨.tmp t,by grind,rfl⟩)
 have s:runs ops.toList S' o.guard=runs ops.toList S o.guard:=by
  unfold runs;cases W:o.guard with
  | none=>rfl
  | some q =>
    obtain⟨j,l⟩:=q;have:gO ops.toList S' j l=gO ops.toList S j l:=by
     unfold gO;cases B:ops.toList[j]? with
     | none=>rfl
     | some I =>
       dsimp only;cases b:I.dst with
       | none=>rfl
       | some t =>
         dsimp only;rw [C t (by
          unfold Oper.looksAt
          grind)]
    omega
 refine⟨?_,?_⟩
 . cases K : o.dst with
   | none=>rfl
   | some t=>rw[K] at D;simp only[cv] at D ⊢;grind
 . rw [s]
   refine H.imp (fun ⟨B,b⟩=>⟨B,?_⟩) id
   unfold act at b ⊢;split at b
   . rename_i f i V w
     rw[w] at e;have J:=e f (by simp[Op.operands,Call.operands])
     have O:i.toList.map (S'.ev E)=i.toList.map (S.ev E):=zbZ fun x p=>e x (by simp only[Op.operands,Call.operands,Array.mem_append];grind)
     rw[J,O];rcases b with b|b|b
     rotate_left
     . grind
     . obtain ⟨g, a, m, z, y⟩ := b
       exact .inr (.inr ⟨g,a,m,z,fun L A c=>y L A fun k u=>(c k u).trans (v k u)⟩)
     refine .inl ⟨?_,b.2⟩;obtain⟨g,a,m,n,z,y⟩:=b.1;refine⟨g,a,m,n,z,y.imp (fun ⟨Q,F,N,R⟩=>⟨?_,?_,N,R⟩) id⟩
     . rw [<-Q]
       exact uT fun x p=>Li 20 fun k c=>v k (F x p k c)
     . intro x p k c
       rw[yX 20 (fun k c=>v k (F x p k c))] at c
       grind
   . have T : cf E nm (S'.ev E) o.op = cf E nm (S.ev E) o.op := Yx o.op e
     rw[T];have G:=Rd.sS (r:=cf E nm (S.ev E) o.op) (fun k c=>v k (b.2 k c))
     refine⟨G.trans b.1,fun k c=>?_⟩
     rw[Rd.sM (fun k c=>v k (b.2 k c))] at c
     grind
structure tO (P:Program)(E:Env)(m:Nat)(c0:Ctx)(a0:Act)(w0:World)(S0:St)(base n:Nat)(D:Nat->Bool)(c:Ctx)(S:St)(a:Act)(w:World):Prop where
 ext:ep m c0 a0 w0 S0.heap c a w S.heap
 jc:S.next=base+n
 iE:m≤base
 bI:c9 P E c S a w
 free:∀j,j<n->D j=false->c.f (base+j)=none
variable {m base n:Nat} {c0 c:Ctx} {w0 w:World} {S0 S:St} {K:AX->St->Prop} {a0 a:Act} {D:Nat->Bool}
theorem WR (hE:bZ P E){ops:Array Oper}{i:Nat}{o:Oper}{d:DE}(ho:ops[i]? = some o)(hin:i<n)(hD:D i=false)(h:uX P E ops.toList (base+i) o S d)(l:tO P E m c0 a0 w0 S0 base n D c S a w){r:Option Nat}{N:Act->World->Prop}
 (hN:∀c' a' w',tO P E m c0 a0 w0 S0 base n (fun j=>j == i || D j) c' (S.app o d) a' w'->N a' w'):wpOpIn (FR r) 0 P ops (QS P E m c0 a0 w0 S0 K) i N a w:=by
 obtain⟨hd,h⟩:=h;unfold wpOpIn;rw[ho];dsimp only;have hwant:∀b,runs ops.toList S o.guard=some b->Region.wanted o (yielded ops a.tmps)=b:=by
  intro b M;unfold runs at M;cases hg:o.guard with
  | none =>
    rw[hg] at M;simp only[zbg] at M;subst M;simp[Region.wanted,hg]
  | some q =>
    obtain⟨j,want⟩:=q;rw[hg] at M;dsimp only at M;exact HA l.bI hg M
 have hfree:c.f (base+i)=none:=l.free i hin hD;rcases h with⟨hr,u⟩|⟨hr,F,V⟩
 . rw [hwant _ hr, if_pos rfl]
   unfold act at u;split at u
   . rename_i f s ts ma
     rcases u with u|u|u
     rotate_left
     . obtain ⟨g, first, cap, args', K0, ob, v0, hf, hs, ⟨hok, U⟩, hfl, F, V, hnm24⟩ := u
       have H:=l.bI.ev f;rw[hf] at H
       generalize hfv:a.eval f=fv at H
       cases H with
       | @fn _ _ _ _ _ Z us h1 h2 hr1 hr2 =>
         have C:=oS l.bI.ev s.toList;have O:aP c w (first++s.toList.map (S.ev E)++cap) (Z++s.toList.map a.eval++us):=((aP.append ⟨h1,hr1⟩ C).append ⟨h2,hr2⟩);have hr':=nI (c':=c.bare) hs O (fun x v y=>ks l.bI.bC.CK (fun b M=>M) (fun b M=>(lJ M).elim) 20)
         have z:=U c.bare w _ l.bI.bC.empty (fun _ _=>rfl) hr'
         have G:(execOp a.eval o).run P w = .ok (.enter g (Z++s.toList.map a.eval++us).toArray) w:=by
          have e:Z.toArray++s.map a.eval++us.toArray=(Z++s.toList.map a.eval++us).toArray:=by
           apply zcd;simp
          simp only[execOp,ma,resolve,hfv,Deferred.ofValue,Sem.run_bind,Sem.run_pure,Result.andThen_ok,invoke,qH hok,e]
         refine nU (fun c e=>by grind) (fun row s w'' e=>by grind) ?_
         unfold Oper.wp;rw[G];refine z.mono ?_
         rintro e w' ⟨c1,H1,nx1,ae,t,hw1,_,_,A,rfl,hk0⟩
         obtain⟨c',B,hB,hnmB,hoth,X,Y⟩:=l.bI.bC.ES hfree hnm24 t hw1 hk0 hfl;have hle:c.le c':=⟨fun k p e=>by
          grind,(X 0 (zbq _)).aq⟩
         have hx:∀{x v},Rel c w x v->Rel c' w' x v:=fun hr=>hr.mono hle (fun b M=>t.other b (l.bI.bC.bN b M) lJ)
         have e2:S.app o d=S.put o.dst d.val (S.heap.set 24 (base+i) (some ob)) S.next:=by simp[St.app,V,bo.dK]
         cases e with
         | returned v =>
           have hv:Rel c' w' d.val v:=by
            rcases F with⟨n,sz,rfl,F⟩|⟨rfl,F⟩
            . rw [F]
              cases A with
              | ay q1 q2 q3 q4 q5=>rw[hB] at q1;cases q1;exact .ay hnmB q2 q3 q4 q5
            . rw [F]
              cases A with
              | cX q1=>rw[hB] at q1;cases q1;exact .cX hnmB
           refine hN c' _ w' ⟨?_,l.jc,l.iE,?_,fun j hj R=>?_⟩
           . rw[e2];exact l.ext.jj (X m (by have:=l.iE;omega)) (put_defers ..)
           . rw [e2]
             exact l.bI.put ((X 0 (zbq _)).defs l.bI.bC l.bI.defers) hx Y (fun k hk=>by rw[hoth k (by have:=l.jc;omega)];exact l.bI.fresh k hk) hd hv
           . simp only [zc5, zcp, ne_eq] at R
             rw[hoth _ aa];exact l.free j hj R.2
         | panicked _=>exact A.elim
         | outgrown=>exact A.elim
     . obtain ⟨g, first, cap, hf, W⟩ := u
       have H:=l.bI.ev f;rw[hf] at H
       generalize hfv:a.eval f=fv at H
       cases H with
       | @fn _ _ _ _ _ Z us h1 h2 hr1 hr2 =>
         obtain⟨hok,U⟩:=W S.heap S.next fun _ _=>rfl
         have C:=oS l.bI.ev s.toList;have O:aP c w (first++s.toList.map (S.ev E)++cap) (Z++s.toList.map a.eval++us):=((aP.append ⟨h1,hr1⟩ C).append ⟨h2,hr2⟩);have z:=U c w _ l.bI.bC l.bI.fresh O;have G:(execOp a.eval o).run P w = .ok (.enter g (Z++s.toList.map a.eval++us).toArray) w:=by
          have e:Z.toArray++s.map a.eval++us.toArray=(Z++s.toList.map a.eval++us).toArray:=by
           apply zcd;simp
          simp only[execOp,ma,resolve,hfv,Deferred.ofValue,Sem.run_bind,Sem.run_pure,Result.andThen_ok,invoke,qH hok,e]
         refine nU (fun c e=>by grind) (fun row s w'' e=>by grind) ?_
         unfold Oper.wp;rw[G];refine z.mono ?_
         rintro e w' ⟨c',H',nx',ae,t,Y,hnx,T,A,rfl,rfl,rfl⟩
         have hff:∀k,c'.f k=c.f k:=fun k=>by
          by_cases hk:k<S.next
          . exact t.f k hk
          . rw[T k aa,l.bI.fresh k aa]
         have hle:c.le c':=⟨fun k p e=>by grind,t.aq⟩
         have hx:∀{x v},Rel c w x v->Rel c' w' x v:=fun hr=>hr.mono hle (fun b M=>t.other b (l.bI.bC.bN b M) (l.bI.bC.kQ M))
         cases e with
         | returned v =>
           refine hN c' _ w' ⟨l.ext.jj (t.less (by have:=l.iE;have:=l.jc;omega)) (put_defers ..),l.jc,l.iE,?_,fun j hj R=>by rw[hff];exact l.free j hj bj⟩
           exact l.bI.put (t.defs l.bI.bC l.bI.defers) hx Y T hd A
         | panicked _=>exact A.elim
         | outgrown=>exact A.elim
     obtain⟨⟨g,first,cap,args',hf,W⟩,V⟩:=u;have H:=l.bI.ev f;rw[hf] at H
     generalize hfv:a.eval f=fv at H
     cases H with
     | @fn _ _ _ _ _ Z us h1 h2 hr1 hr2 =>
       have U:AC P E g (first++s.toList.map (S.ev E)++cap) S.heap S.next fun ae H' nx'=>ae = .ret d.val∧H'=S.heap∧nx'=S.next:=by
        rcases W with⟨q1,_,q3,q4⟩|⟨q1,q3⟩
        . exact AC.flat q1 q3 fun ae hae=>⟨by subst hae;exact q4,hae,rfl,rfl⟩
        . exact AC.pure q1 q3 fun ae hae=>⟨hae,rfl,rfl⟩
       obtain⟨hok,U⟩:=U;have C:=oS l.bI.ev s.toList;have O:aP c w (first++s.toList.map (S.ev E)++cap) (Z++s.toList.map a.eval++us):=((aP.append ⟨h1,hr1⟩ C).append ⟨h2,hr2⟩);have z:=U c w _ l.bI.bC l.bI.fresh O;have G:(execOp a.eval o).run P w = .ok (.enter g (Z++s.toList.map a.eval++us).toArray) w:=by
        have e:Z.toArray++s.map a.eval++us.toArray=(Z++s.toList.map a.eval++us).toArray:=by
         apply zcd;simp
        simp only[execOp,ma,resolve,hfv,Deferred.ofValue,Sem.run_bind,Sem.run_pure,Result.andThen_ok,invoke,qH hok,e]
       refine nU (fun c e=>by grind) (fun row s w'' e=>by grind) ?_
       unfold Oper.wp;rw[G];refine z.mono ?_
       rintro e w' ⟨c',H',nx',ae,t,Y,hnx,T,A,rfl,rfl,rfl⟩
       have hff:∀k,c'.f k=c.f k:=fun k=>by
        by_cases hk:k<S.next
        . exact t.f k hk
        . rw[T k aa,l.bI.fresh k aa]
       have hle:c.le c':=⟨fun k p e=>by grind,t.aq⟩
       have hx:∀{x v},Rel c w x v->Rel c' w' x v:=fun hr=>hr.mono hle (fun b M=>t.other b (l.bI.bC.bN b M) (l.bI.bC.kQ M))
       cases e with
       | returned v =>
         refine hN c' _ w' ⟨?_,l.jc,l.iE,?_,fun j hj R=>by rw[hff];exact l.free j hj bj⟩
         . have : (S.app o d).heap = S.heap := by simp [St.app, St.put, V, bo.dK]
           rw[this];exact l.ext.jj (t.less (by have:=l.iE;have:=l.jc;omega)) (put_defers ..)
         . have := l.bI.put (t.defs l.bI.bC l.bI.defers) hx Y T hd A
           have e2:S.app o d=S.put o.dst d.val S.heap S.next:=by simp[St.app,V,bo.dK]
           grind
       | panicked _=>exact A.elim
       | outgrown=>exact A.elim
   . rename_i ma
     have hnd:∀c,o.op≠.defer c:=fun c e=>by have h1:=u.1;rw[e] at h1;cases h1
     obtain⟨nx,w',c',G,t,Y,hf,hv⟩:=Dy hE l.bI.bC hfree l.bI.ev o u.1;refine nU hnd (fun row s w'' e=>?_) ?_
     . grind
     unfold Oper.wp;rw[G];have hx:∀{x v},Rel c w x v->Rel c' w' x v:=fun hr=>t.rel l.bI.bC hr
     have mid:∀v,Rel c' w' d.val v->tO P E m c0 a0 w0 S0 base n (fun j=>j == i || D j) c' (S.app o d) (a.put o.dst v) w':=fun v hv=>
      ⟨l.ext.jj (t.toM fun k hk=>hf k (by have:=l.iE;omega)) (put_defers ..),l.jc,l.iE,
       l.bI.put (t.defs l.bI.bC l.bI.defers) hx Y (fun k hk=>by rw[hf k (by have:=l.jc;omega)];exact l.bI.fresh k hk) hd hv,
       fun j hj R=>by
        simp only[zc5,zcp,ne_eq] at R;rw[hf _ aa];exact l.free j hj R.2⟩
     rcases hv with⟨v,rfl,hv⟩|⟨rfl,hany⟩
     . exact hN _ _ _ (mid v hv)
     . exact hN _ _ _ (mid undef (by rw[show d.val=AV.any from hany];exact .any _))
 . rw [hwant _ hr, if_neg ag]
   refine⟨fun _ _=>trivial,hN c _ w ⟨?_,l.jc,l.iE,?_,fun j hj R=>l.free j hj bj⟩⟩
   . have : (S.app o d).heap = S.heap := by simp [St.app, St.put, V, bo.dK]
     rw[this];exact l.ext.jj (ExtM.refl ..) (put_defers ..)
   . have := l.bI.put l.bI.defers (fun h => h) l.bI.bC l.bI.fresh hd J6
     have e2:S.app o d=S.put o.dst (.ao []) S.heap S.next:=by simp[St.app,V,F,bo.dK]
     grind
end
end Go.Ago
end
section
namespace Go.Ago
open List Nat
def kc (a b:List Nat):Bool:=a.all fun x=>!b.contains x
def jH (a:List Nat)(i:Nat)(d:DE)(acc:List (Nat×List Nat×List Nat)):Bool:=
 (d.up.all fun p=>ble (p.1+2) 16777216) && acc.all fun (j,r,k)=>comp a i j || (kc d.keys r && kc d.keys k && kc k d.rds)
def mY (P:Program)(E:Env)(nm:Nat)(o:Oper)(S:St)(a:DE->Prop):Prop:=
 cv S o.dst=true∧match o.op with
  | .call { callee := .value f,args,.. }=>(∃v b,mI P E (S.ev E f) (args.toList.map (S.ev E)) S.heap v b∧a ⟨v,[],b⟩)∨(∃v e,zV P E nm (S.ev E f) (args.toList.map (S.ev E)) v e∧a ⟨v,e,[]⟩)∨∃v b e,zW P E (S.ev E f) (args.toList.map (S.ev E)) S.heap v b e∧a ⟨v,e,b⟩
  | g=>(cf E nm (S.ev E) g).gP S.heap (fun d l=>a ⟨d.val,d.up,l⟩) []
def fW (P:Program)(E:Env)(ops:List Oper)(b:Nat)(a:List Nat)(K:St->Prop):List Oper->Nat->St->List (Nat×List Nat×List Nat)->Prop
 | [],_,S,_=>K S
 | o::c,i,S,e=>gate ops S o.guard
  (mY P E (b+i) o S fun d=>jH a i d e=true∧fW P E ops b a K c (i+1) (S.app o d) ((i,d.rds,d.keys)::e))
  (cv S o.dst=true∧fW P E ops b a K c (i+1) (S.app o ⟨.ao [],[],[]⟩) ((i,[],[])::e))
section
variable {P:Program} {E:Env} {ops:Array Oper} {base:Nat} {masks:List Nat} {K:St->Prop} {S0:St}
structure Fact (P:Program)(E:Env)(ops:Array Oper)(base:Nat)(masks:List Nat)(S0:St)(ds:List DE)(i:Nat):Prop where
 ok:∃o d Si,ops[i]? = some o∧ds[i]? = some d∧At ops ds S0 (fun j=>blt j i) Si∧uX P E ops.toList (base+i) o Si d
 small:∀d,ds[i]? = some d->∀p∈d.up,p.1+1<2 ^ 24
 apart:∀d,ds[i]? = some d->∀(j:Nat) e,j<i->ds[j]? = some e->comp masks i j=true∨(kc d.keys e.rds=true∧kc d.keys e.keys=true∧kc e.keys d.rds=true)
theorem At.ext {e c:List DE}{S:St}{i:Nat}(h:At ops e S0 (fun j=>blt j i) S)(m:∀j,j<i->c[j]? = e[j]?):At ops c S0 (fun j=>blt j i) S:=by
 have b:∀{V:Type} (d a:Nat->Option V) (n:Nat) (v:V),(∀j,j<i->d j=a j)->gS d (fun j=>blt j i) n v=gS a (fun j=>blt j i) n v:=by
  intro V d a n v o
  induction n with
  | zero=>rfl
  | succ n p =>
    simp[gS]
    simp_all
 exact⟨h.bL,h.next,fun t=>(h.bu t).trans (b _ _ _ _ fun j l=>by simp[oQ];grind),fun k=>(h.heap k).trans (b _ _ _ _ fun j l=>by simp[mo];grind)⟩
theorem At.Wd {g:List DE}{S:St}{i:Nat}{o:Oper}{d:DE}(h:At ops g S0 (fun j=>blt j i) S)(n:ops[i]? = some o)(m:g[i]? = some d)(c:cv S o.dst=true)(l:∀p∈d.up,p.1+1<2 ^ 24) :
 At ops g S0 (fun j=>blt j (i+1)) (S.app o d):=by
 have b:i<ops.size:=(zb6.1 n).1;have q:∀j,j<ops.size->(j == i || blt j i)=blt j (i+1):=by
  intro j _;rw[Bool.eq_iff_iff];simp;omega
 have a:∀j,i<j->blt j i=true->False:=by
  intro j f e;have:j<i:=by simpa using e
  omega
 refine At.congr (D:=fun j=>j == i || blt j i) ⟨h.bL,h.next,fun t=>?_,fun k=>?_⟩ q
 . rw [EY c, uR ops.size _ b (fun j f _ e _ => (a j f e).elim), <-h.bu t]
   simp only[oQ,n,m]
   grind
 . show (bo.dK S.heap d.up).get k = _
   rw[Ej _ _ _ l,uR ops.size _ b (fun j f _ e _=>(a j f e).elim),<-h.heap k]
   simp only[mo,m]
   grind
theorem Fact.ext {l c:List DE}{i:Nat}(h:Fact P E ops base masks S0 l i)(f:∀j,j≤i->c[j]? = l[j]?):Fact P E ops base masks S0 c i:=by
 obtain⟨⟨o,d,u,n,t,p,q⟩,r,s⟩:=h;refine⟨⟨o,d,u,n,(f i (ag)).trans t,p.ext fun j m=>f j aa,q⟩,fun d k=>r d ((f i (ag)).symm.trans k),fun d k j e m g=>s d ((f i (ag)).symm.trans k) j e m ((f j aa).symm.trans g)⟩
theorem Re {nm:Nat}{o:Oper}{S:St}{a:DE->Prop}(h:mY P E nm o S a):cv S o.dst=true∧∃d,act P E nm o S d∧a d:=by
 obtain⟨m,i⟩:=h;refine⟨m,?_⟩;split at i
 . rename_i f l q g
   rcases i with⟨v,b,j,c⟩|⟨v,k,j,c⟩|⟨v,b,k,j,c⟩
   . refine ⟨⟨v, [], b⟩, ?_, c⟩
     unfold act
     grind
   . refine ⟨⟨v, k, []⟩, ?_, c⟩
     unfold act
     grind
   . refine ⟨⟨v, k, b⟩, ?_, c⟩
     unfold act
     grind
 . rename_i g
   obtain⟨e,p,j,c,_,n⟩:=Rd.rZ i;refine⟨⟨e.val,e.up,p⟩,?_,n⟩;unfold act
   simp_all
def Over (P:Program)(E:Env)(ops:Array Oper)(b:Nat)(a:List Nat)(K:St->Prop)(S0:St)(i:Nat)(pre:List DE):Prop:=
 ∃c d,c.length=ops.size∧(∀j,j<i->c[j]? = pre[j]?)∧(∀k,i≤k->k<ops.size->Fact P E ops b a S0 c k)∧At ops c S0 (fun j=>blt j ops.size) d∧K d
theorem E3:∀(f:List Oper) (i:Nat) (S:St) (acc:List (Nat×List Nat×List Nat)) (pre:List DE),ops.toList.drop i=f->pre.length=i->(∀(j:Nat) d,pre[j]? = some d->(j,d.rds,d.keys)∈acc)->
 At ops pre S0 (fun j=>blt j i) S->i≤ops.size->fW P E ops.toList base masks K f i S acc->Over P E ops base masks K S0 i pre
 | [], i, S, acc, pre, u, C, _, L, Y, h => by
   have hi:ops.size=i:=by
    have:=zbc length u;simp at this;omega
   refine⟨pre,S,aa,fun j t=>rfl,fun k F G=>aa,?_,h⟩
   grind
 | o :: f, i, S, acc, pre, u, C, M, L, _, h => by
   have hi:i<ops.size:=by
    have:=zbc length u;simp at this;omega
   have O:ops[i]? = some o:=by
    have:(ops.toList.drop i)[0]? = some o:=by rw[u];rfl
    simpa using this
   have r:ops.toList.drop (i+1)=f:=by
    rw[<-drop_drop,u];rfl
   
   have Q:∀d,uX P E ops.toList (base+i) o S d->jH masks i d acc=true->fW P E ops.toList base masks K f (i+1) (S.app o d) ((i,d.rds,d.keys)::acc)->Over P E ops base masks K S0 i pre:=by
    intro d y l n;have m:∀j,j<i->(pre++[d])[j]? = pre[j]?:=fun j t=>zbM aa
    have w:(pre++[d])[i]? = some d:=by rw[zbv aa,C];simp
    simp only[jH,zbe] at l;have D:∀p∈d.up,p.1+1<2 ^ 24:=fun p C=>by
     have:=zbr.1 l.1 p C;have:=zbb this;omega
    have x:=L.ext m;obtain ⟨ds, SE, R, N, e3, Z, e5⟩ := E3 f (i + 1) (S.app o d) _ (pre ++ [d]) r bj (fun j e t=>by
     grind) (x.Wd O w y.1 D) aa n
    refine⟨ds,SE,R,fun j t=>(N j aa).trans (m j t),fun k F G=>?_,Z,e5⟩
    by_cases U:k=i
    . subst U
      have V:Fact P E ops base masks S0 (pre++[d]) k:=by
       refine⟨⟨o,d,S,O,w,x,y⟩,fun W r=>?_,fun W r j e t X=>?_⟩
       . grind
       . grind
      exact V.ext fun j t=>N j aa
    . grind
   have v:runs ops.toList S o.guard=some true->mY P E (base+i) o S (fun d=>jH masks i d acc=true∧fW P E ops.toList base masks K f (i+1) (S.app o d) ((i,d.rds,d.keys)::acc))->Over P E ops base masks K S0 i pre:=fun I h=>by
    obtain⟨F,d,G,T,h4⟩:=Re h;exact Q d ⟨F,.inl ⟨I,G⟩⟩ T h4
   have H:runs ops.toList S o.guard=some false->cv S o.dst=true∧fW P E ops.toList base masks K f (i+1) (S.app o ⟨.ao [],[],[]⟩) ((i,[],[])::acc)->Over P E ops base masks K S0 i pre:=fun I h=>
    Q ⟨.ao [],[],[]⟩ ⟨h.1,.inr ⟨I,rfl,rfl⟩⟩ (by simp[jH,DE.keys,kc]) h.2
   simp only[fW,gate] at h;cases z:o.guard with
   | none =>
     rw[z] at h;exact v (by rw[z];rfl) h
   | some q =>
     obtain⟨j,A⟩:=q;rw[z] at h;dsimp only at h;cases J:gO ops.toList S j A with
     | none=>grind
     | some b =>
       rw[J] at h;cases B:b with
       | true=>exact v (by rw[z];simp only[runs,J,B]) (h.1 B)
       | false=>exact H (by rw[z];simp only[runs,J,B]) (h.2 B)
theorem Bc:∀(l:List Oper) (i:Nat),oi l i=true->∀(j:Nat) o,l[j]? = some o->∀e∈o.after,Region.binds .any e=true->e.on<i+j
 | [],_,_,j,o,c=>by grind
 | x :: l, i, h, j, o, c => by
   simp only[oi,zbe] at h;intro e k g;cases j with
   | zero =>
     simp at c;subst c;have:=zbr.1 h.1 e bj
     simp_all
   | succ j =>
     have:=Bc l (i+1) h.2 j o bj e k g;omega
theorem J2 (h:oi ops.toList 0=true):∀{i j:Nat},Reach ops i j->j<i:=by
 intro i j e
 induction e with
 | one c b a=>have:=Bc _ 0 h _ _ (by simpa using c) _ b a;omega
 | more c b a _ g=>have:=Bc _ 0 h _ _ (by simpa using c) _ b a;omega
theorem wJ {a b:List Nat}(h:kc a b=true){x:Nat}(c:x∈a)(d:x∈b):False:=by
 have:=zbr.1 h x c
 grind
theorem Sy (C:oi ops.toList 0=true)(A:y4 ops (jv ops.toList [])=true){r:List DE}(D:r.length=ops.size)(s:∀k,k<ops.size->Fact P E ops base (jv ops.toList []) S0 r k):zZ ops r:=by
 refine⟨D,fun i d n p B=>(s i bj).small d n p B,fun i j x y t w z m F G=>?_,fun i j d e k n g m q a=>?_,fun i j h=>J2 C h⟩
 . have f := (zb6.1 w).1
   have c:=(zb6.1 z).1;have b:=zbr.1 (zbr.1 A i (zcf.2 f)) j (zcf.2 c);simp only[w,z,F,zbQ,zb1,zbe] at b;rcases b with(b|b)|⟨b,o⟩
   . omega
   . exact A0 b
   grind
 . have f : i < ops.size := by have := (zbn.1 n).1; omega
   have c:j<ops.size:=by have:=(zbn.1 g).1;omega
   rcases Nat.lt_or_gt_of_ne m with l|l
   . rcases (s j c).apart e g i d l n with h | ⟨b, o, u⟩
     . exact(A0 h).symm
     . exfalso
       rcases a with a|a
       . exact wJ u q a
       . exact wJ o a q
   . rcases (s i f).apart d n j e l g with h | ⟨b, o, u⟩
     . exact A0 h
     . exfalso
       rcases a with a|a
       . exact wJ b q a
       . exact wJ o q a
theorem c9.congr {c:Ctx}{S S':St}{a:Act}{w:World}(h:c9 P E c S a w)(d:S'.bL=S.bL)(i:S'.next=S.next)(g:∀t,S'.bu.get t=S.bu.get t)(b:∀k,S'.heap.get k=S.heap.get k):c9 P E c S' a w:=
 ⟨h.size.trans d.symm,fun t x e=>h.bu t x bj,h.defers,h.bC.congr b,fun k f=>h.fresh k aa⟩
theorem F2 {p p':Nat->Bool}(b:∀j,p' j=true->p j=true):∀(l:List Nat),(l.filter p').length≤(l.filter p).length
 | []=>zbm _
 | x :: l => by
   have c:=F2 b l
   grind
theorem F3 {p p':Nat->Bool}{i:Nat}(b:∀j,p' j=true->p j=true)(c:p i=true)(d:p' i=false):∀(l:List Nat),i∈l->(l.filter p').length<(l.filter p).length
 | [],h=>by grind
 | x :: l, h => by
   simp only[filter_cons]
   by_cases e:x=i
   . subst e
     have:=F2 b l
     grind
   . have f:i∈l:=by
      grind
     have g:=F3 b c d l f
     grind
theorem ExtM.congr {m:Nat}{c c':Ctx}{w w':World}{H H' K':aj}(h:ExtM m c w H c' w' H')(d:∀j,K'.get j=H'.get j):ExtM m c w H c' w' K':=
 { h with own:=fun b a=>h.own b (Own.congr (fun j=>(d j).symm) a) }
theorem SW.draw {rr:Bool}(hE:bZ P E)(Z:P.follows .mixedOrders=true){id:Nat}{K:AX->St->Prop}{S:St}(he:oi ops.toList 0=true)(hs:y4 ops (jv ops.toList [])=true)
 (h:fW P E ops.toList S.next (jv ops.toList []) (K .normal) ops.toList 0 { S with next:=S.next+ops.size } []):SW P E rr (.region id ops true) K S:=by
 intro r hrr m hm c a w l;obtain⟨ds,SE,hl,_,hf,C,hK⟩:=E3 (S0:={ S with next:=S.next+ops.size }) ops.toList 0 _ [] [] rfl rfl (fun j d G=>by grind) (At.congr (At.start ops [] _) fun j _=>rfl) (zbq _) h
 have hF:=Sy he hs hl fun k hk=>hf k (zbq _) hk
 refine wpIn_region_any Z ?_;have key:∀(n:Nat) (f:Array Bool) (I:Ctx) (u:St) (H:Act) (F:World),f.size=ops.size->((List.range ops.size).filter (fun i=>!f.getD i true)).length≤n->
  zX ops (fun i=>f.getD i false)->At ops ds { S with next:=S.next+ops.size } (fun i=>f.getD i false) u->tO P E m c a w S S.next ops.size (fun i=>f.getD i false) I u H F->
  wpAnyIn (FR r) 0 P .any ops (QS P E m c a w S K) n f H F:=by
  have W:∀(f:Array Bool),f.size=ops.size->∀i,i<ops.size->f.getD i true=f.getD i false:=by
   intro f q i L;simp[zcj,zbS (show i<f.size by omega)]
  have fin:∀(f:Array Bool) (I:Ctx) (u:St) (H:Act) (F:World),f.size=ops.size->Region.ready .any ops f=[]->
   At ops ds { S with next:=S.next+ops.size } (fun i=>f.getD i false) u->tO P E m c a w S S.next ops.size (fun i=>f.getD i false) I u H F->QS P E m c a w S K .normal H F:=by
   intro f I u H F q B Q M;have hall:∀j,j<ops.size->f.getD j false=true:=by
    intro j
    induction j using Nat.strongRecOn with
    | _ j ih =>
      intro G;cases X:f.getD j false with
      | true=>rfl
      | false =>
        exfalso
        have hmem:j∈Region.ready .any ops f:=by
         unfold Region.ready;rw[zbY];refine⟨zcf.2 G,?_⟩;rw[W f q j G,X,zbS G];simp only[Bool.not_false,zdc,zcn,zcb,Array.all_eq_true'];intro e y;cases A:Region.binds .any e with
         | false=>rfl
         | true =>
           have hlt:=J2 he (Reach.one (zbS G) y A)
           grind
        grind
   have J:=Q.congr (D':=fun j=>blt j ops.size) fun j G=>by
    simp_all
   have hsl:∀t,SE.bu.get t=u.bu.get t:=fun t=>(C.bu t).trans (J.bu t).symm
   have hhp:∀k,SE.heap.get k=u.heap.get k:=fun k=>(C.heap k).trans (J.heap k).symm
   exact⟨I,SE,.normal,⟨M.ext.toExtM.congr hhp,M.ext.gd⟩,by rw[C.next];simp,M.bI.congr (C.bL.trans J.bL.symm) (C.next.trans J.next.symm) hsl hhp,trivial,hK⟩
  intro n
  induction n with
  | zero =>
    intro f I u H F q hcnt hC Q M;have B:Region.ready .any ops f=[]:=by
     have h0:(List.range ops.size).filter (fun i=>!f.getD i true)=[]:=zbh aa
     unfold Region.ready;rw[filter_eq_nil_iff] at h0 ⊢;intro i L hc;simp only[zbe] at hc;exact h0 i L hc.1
    exact⟨B,fin f I u H F q B Q M⟩
  | succ n ih =>
    intro f I u H F q hcnt hC Q M;refine⟨fun B=>fin f I u H F q B Q M,fun i L=>?_⟩
    unfold Region.ready at L;rw[zbY] at L;obtain⟨z,L⟩:=L;have z:i<ops.size:=zcf.1 z;simp only[zbe,zb4] at L;obtain⟨hi1,R⟩:=L;have X:f.getD i false=false:=by rw[<-W f q i z];exact hi1
    obtain⟨⟨o,d,Si,Y,hd,V,hok⟩,_,_⟩:=hf i (zbq _) z;have U:∀e∈o.after,Region.binds .any e=true->f.getD e.on false=true:=by
     intro e y A;rw[Y] at R;simp only[zcn,zcb,Array.all_eq_true'] at R;have:=R e y;rw[A] at this
     simpa using this
    have hpre:∀j,Reach ops i j->f.getD j false=true:=by
     intro j hr;cases hr with
     | one T y A=>grind
     | more T y A hr'=>rw[Y] at T;cases T;exact hC _ _ hr' (U _ y A)
    obtain⟨ag1,ag2⟩:=Q.agree hF hC X hpre Y hd V;have O:=WQ hok (Q.bL.trans V.bL.symm) ag1 ag2;have hget:∀j,(f.setIfInBounds i true).getD j false=(j == i || f.getD j false):=by
     intro j;simp only[zcj,zcM]
     by_cases G:i=j
     . grind
     . grind
    have hgett:∀j,(f.setIfInBounds i true).getD j true=(j == i || f.getD j true):=by
     intro j;simp only[zcj,zcM]
     by_cases G:i=j
     . grind
     . grind
    refine WR hE Y z X O M fun c2 a2 w2 hM2=>?_
    have N:(fun j=>(f.setIfInBounds i true).getD j false)=(fun j=>j == i || f.getD j false):=funext hget
    refine ih _ c2 (u.app o d) a2 w2 bj ?_ ?_ ?_ ?_
    . have := F3 (p := fun j => !f.getD j true) (p' := fun j => !(f.setIfInBounds i true).getD j true) (i := i) (fun j G=>by
       grind) bj ag (List.range ops.size) (zcf.2 z)
      omega
    . rw [N]
      intro a b hr A;simp only[zbQ,zb1] at A ⊢
      right
      rcases A with rfl|A
      . grind
      . exact hC a b hr A
    . rw[N];exact Q.step hF hC X Y hd O.1
    grind
 have s:(fun i=>(Array.replicate ops.size false).getD i false)=(fun _=>false):=by
  funext i
  simp only[zcj,Array.getElem?_replicate];split<;>rfl
 refine key ops.size (Array.replicate ops.size false) c { S with next:=S.next+ops.size } a _ ag ?_ ?_ ?_ ?_
 . grind
 . rw[s];intro i j _ h;cases h
 . rw[s];exact At.start _ _ _
 . rw [s]
   exact⟨⟨(ExtM.refl m c w S.heap).drew,Gd.refl w a⟩,rfl,hm,⟨l.size,fun t x e=>by obtain⟨v,h1,h2⟩:=l.bu t x e;exact⟨v,h1,h2.drew⟩,l.defers.mono (zbm _) (fun D _ h1 h2=>⟨h1,h2⟩),l.bC.drew,fun k hk=>l.fresh k bj⟩,
    fun j G _=>l.fresh _ aa⟩
end
end Go.Ago
end
namespace Go.Ago
open List Nat
def Dh:AV->Value->Bool
 | .bool a,.bool b=>a == b
 | .int k a,.int c b=>decide (k=c) && a == b
 | .str l,.string s=>l == s.data.toList
 | .dI,.pointer none=>true
 | .ai,.slice none 0 0=>true
 | .fS,.map none=>true
 | .cY,.nilFunc=>true
 | .eI,.nilIface=>true
 | _,_=>false
theorem XO {x:AV}{v:Value}(h:Dh x v=true)(c:Ctx)(w:World):Rel c w x v∧x.one=true:=by
 unfold Dh at h;split at h
 . rw[eq_of_beq h];exact⟨.bool _,rfl⟩
 . simp only [zbe, zbz, zb1] at h
   rw[h.1,h.2];exact⟨.int _ _,rfl⟩
 . rename_i l s
   have:l=s.data.toList:=by simpa using h
   subst this;have:=Rel.str (c:=c) (w:=w) s.data.toList;exact⟨aa,rfl⟩
 . exact⟨.dI,rfl⟩
 . exact⟨.ai,rfl⟩
 . exact⟨.fS,rfl⟩
 . exact⟨.cY,rfl⟩
 . exact⟨.eI,rfl⟩
 grind
def oT:List AV->List Value->Bool
 | [],[]=>true
 | x::b,v::c=>Dh x v && oT b c
 | _,_=>false
theorem u5:∀{xs:List AV} {vs:List Value},oT xs vs=true->∀c w,aP c w xs vs∧∀x∈xs,x.one=true
 | [],[],_,c,w=>⟨.nil,ag⟩
 | x :: xs, v :: vs, h, c, w => by
   simp[oT] at h;obtain⟨d,e⟩:=XO h.1 c w;obtain⟨b,f⟩:=u5 h.2 c w;exact⟨.cons d b,fun y g=>by
    grind⟩
 | [],_::_,h,_,_=>by simp[oT] at h
 | _::_,[],h,_,_=>by simp[oT] at h
def rQ (P:Program):List Field->List (Nat×Nat×TypeId)->Bool
 | [],[]=>true
 | f::c,(b,d,t)::l=>f.offset == b && f.type == t && (match P.info? t with|some i=>i.size == d|none=>false) && f.name != "_" && rQ P c l
 | _,_=>false
theorem GV {P:Program}:∀{c:List Field} {l:List (Nat×Nat×TypeId)},rQ P c l=true->c.length=l.length∧∀(i off sz:Nat) (t:TypeId),l[i]? = some (off,sz,t)->
 ∃f b,c[i]? = some f∧f.offset=off∧f.type=t∧P.info? t=some b∧b.size=sz∧f.name ≠ "_"
 | [],[],_=>⟨rfl,fun i _ _ _ h=>by grind⟩
 | f :: c, (off, sz, t) :: l, h => by
   simp only[rQ,zbe,zb1] at h;obtain⟨⟨⟨⟨e,k⟩,g⟩,j⟩,d⟩:=h;obtain⟨m,n⟩:=GV d
   grind
 | [],_::_,h=>by simp[rQ] at h
 | _::_,[],h=>by simp[rQ] at h
def D_ (P:Program):TypeDesc->TD->Bool
 | .struct c,.struct l=>rQ P c.toList l
 | .slice e,.slice a=>e == a
 | .array n e,.array d a=>n == d && e == a
 | .int k,.int b=>decide (k=b)
 | .bool,.bool=>true
 | .string,.string=>true
 | .interface _,.iface=>true
 | .pointer _,.ptr=>true
 | .func _ _ _,.func=>true
 | .map k e,.map b a=>k == b && e == a
 | .interface _,.other=>false
 | _,.other=>true
 | _,_=>false
theorem Z7 {P:Program}{d:TypeDesc}{t:TD}(h:D_ P d t=true):rm P d t:=by
 unfold D_ at h;split at h
 . rename_i b l
   obtain⟨g,m⟩:=GV h;exact⟨b,rfl,aa,fun i f j t e=>by
    grind⟩
 . rw[eq_of_beq h];rfl
 . simp only[zbe,zb1] at h;rw[h.1,h.2];rfl
 . rename_i k c
   have:k=c:=by simpa using h
   rw[this];rfl
 . rfl
 . rfl
 . exact⟨_,rfl⟩
 . exact⟨_,rfl⟩
 . exact⟨_,_,_,rfl⟩
 . simp only[zbe,zb1] at h;rw[h.1,h.2];rfl
 . cases h
 . assumption
 grind
def zt (P:Program)(t:TypeId)(b:TI):Bool:=
 match P.info? t,P.underlying t with
 | some a,some d=>a.size == b.size && a.bytes == b.bytes && b.agg == xu d && D_ P d b.desc && b.zero.length == b.size &&
  (match a.zero with
   | some (.agg c)=>b.agg && oT b.zero c.toList
   | some z=>!b.agg && oT b.zero [z]
   | none=>false)
 | _,_=>false
theorem zad {P:Program}{t:TypeId}{b:TI}(h:zt P t b=true)(C:b.kI=true->P.eqGuardType P.depth t=false∧(∀p,b.desc = .struct p->P.stoodInHeld t=false)):pE P t b:=by
 refine⟨?_,C⟩;unfold zt at h;split at h
 . rename_i a d m u
   simp only[zbe,zb1] at h;obtain⟨⟨⟨⟨⟨r,s⟩,B⟩,n⟩,o⟩,f⟩:=h;have g:∀(z:Value) (j:List Value),z.cells.toList=j->oT b.zero j=true->(∀c w,Rel c w (match b.agg with|true => .agg b.zero|false=>b.zero.headD .any) z)->a.zero=some z->
    ∃a d z,P.info? t=some a∧P.underlying t=some d∧a.size=b.size∧a.bytes=b.bytes∧b.agg=xu d∧rm P d b.desc∧a.zero=some z ∧
     (∀c w,aP c w b.zero z.cells.toList)∧b.zero.length=b.size∧(∀x∈b.zero,x.one=true)∧(∀c w,Rel c w (match b.agg with|true => .agg b.zero|false=>b.zero.headD .any) z):=fun z j i l v y=>
    ⟨a,d,z,m,u,r,s,B,Z7 n,y,fun c w=>by rw[i];exact(u5 l c w).1,o,(u5 l ⟨fun _=>none,fun _=>False⟩ default).2,v⟩
   split at f
   . rename_i A i
     simp only[zbe] at f;refine g _ A.toList rfl f.2 (fun c w=>?_) i
     rw[f.1];have:=(u5 f.2 c w).1;have G:=Rel.agg this.1 this.2;omega
   . rename_i z D i
     simp only[zbe,zb4] at f;have k:z.cells.toList=[z]:=by cases z<;>first|rfl|grind
     refine g z [z] k f.2 (fun c w=>?_) i
     rw[f.1];have:=(u5 f.2 c w).1;obtain⟨x,E⟩:∃x,b.zero=[x]:=by
      have F:=this.1
      match q:b.zero,F with
      | [x],_=>simp
     rw[E] at this ⊢;exact this.2 0 x z rfl rfl
   grind
 grind
def xK:List (Nat×TI)->Tr TI->Tr TI
 | [],t=>t
 | (k,i)::l,t=>xK l (t.ins 24 k (some i))
theorem IW:∀(l:List (Nat×TI)) (t:Tr TI) (k:Nat) (i:TI),(l.all fun p=>ble (p.1+2) 16777216)=true->(xK l t).get k=some i->(k,i)∈l∨t.get k=some i
 | [],t,k,i,_,h => .inr h
 | (j, x) :: l, t, k, i, b, h => by
   simp only[all_cons,zbe] at *;have c:j+1<2 ^ 24:=zbJ (ag) (zbu (zbb b.1) ab);rcases IW l _ k i b.2 h with h|h
   . grind
   rw[Tr.SO _ j _ t k c] at h
   grind
theorem Rz {P:Program}{a:Tr TI}{l:List (Nat×TI)}{G:eZ}(c:a=xK l .nil)(d:(l.all fun p=>ble (p.1+2) 16777216)=true)(e:(l.all fun p=>zt P p.1 p.2)=true)
 (f:∀p∈l,p.2.kI=true->P.eqGuardType P.depth p.1=false∧(∀b,p.2.desc = .struct b->P.stoodInHeld p.1=false)):bZ P ⟨a.get,G⟩:=by
 refine⟨fun t i h=>?_⟩
 rw[c] at h;rcases IW l _ t i d h with h|h
 . exact zad (zbr.1 e _ h) (f _ h)
 cases h
end Go.Ago
section
namespace Go.Ago
open List Nat
def St.at_ (S:St)(nx:Nat):St:={ S with next:=nx }
inductive RR where
 | ok (x:AX) (S:St)
 | no (why:Nat)
inductive R1 where
 | next (S:St)
 | aU (v:AV) (S:St)
 | no (why:Nat)
section
variable (P:Program) (E:Env)
def back (c:Func)(S:St)(b:Option Tmp):RR->R1
 | .ok .normal a | .ok .ret a => match ig E c a with
   | some v => match cv S b with
     | true => .next (S.put b v a.heap a.next)
     | false => .no 3
   | none => .no 4
 | .ok (.aU v) a => .aU v (S.put none .any a.heap a.next)
 | .ok _ _ => .no 5
 | .no n => .no n
end
end Go.Ago
end
namespace Go.Ago
open Go.Proofs List Nat Tryz
def LX:TI:=⟨1,8,false,[.cY],.func,false⟩
def o6:TI:=⟨1,8,false,[.int .i64 0],.int .i64,true⟩
def M8:TI:=⟨1,1,false,[.bool false],.bool,true⟩
def s8:TI:=⟨1,1,false,[.int .u8 0],.int .u8,true⟩
def vq:TI:=⟨1,16,false,[.str []],.string,true⟩
def Ml:TI:=⟨1,16,false,[.eI],.iface,false⟩
def Mp:TI:=⟨1,4,false,[.int .i32 0],.int .i32,true⟩
def Ms:TI:=⟨1,24,false,[.ai],.slice 120,false⟩
def Mw:TI:=⟨1,24,false,[.ai],.slice 203,false⟩
def MA:TI:=⟨1,24,false,[.ai],.slice 122,false⟩
def MF:TI:=⟨1,24,false,[.ai],.slice 9,false⟩
def MH:TI:=⟨1,24,false,[.ai],.slice 3,false⟩
def MN:TI:=⟨6,128,true,[.ai,.int .i64 0,.ai,.ai,.ai,.ai],.struct [(0,1,22),(1,1,3),(2,1,23),(3,1,24),(4,1,25),(5,1,26)],false⟩
def MP:TI:=⟨1,24,false,[.ai],.slice 44,false⟩
def MT:TI:=⟨7,152,true,[.ai,.int .i64 0,.ai,.ai,.ai,.ai,.ai],.struct [(0,6,28),(6,1,29)],false⟩
def MU:TI:=⟨1,8,false,[.cY],.func,false⟩
def M1:TI:=⟨1,8,false,[.int .i64 0],.int .i64,true⟩
def M7:TI:=⟨1,24,false,[.ai],.slice 26,false⟩
def M9:TI:=⟨1,24,false,[.ai],.slice 62,false⟩
def M_:TI:=⟨2,32,true,[.int .i64 0,.ai],.struct [(0,1,3),(1,1,42)],false⟩
def Na:TI:=⟨1,24,true,[.ai],.struct [(0,1,39)],false⟩
def Nb:TI:=⟨5,48,true,[.int .i64 0,.int .i64 0,.int .i64 0,.bool false,.str []],.struct [(0,1,3),(1,1,3),(2,1,3),(3,1,4),(4,1,9)],true⟩
def Nc:TI:=⟨2,24,true,[.int .i64 0,.str []],.struct [(0,1,3),(1,1,9)],true⟩
def Nd:TI:=⟨1,24,false,[.ai],.slice 209,false⟩
def Nf:TI:=⟨1,24,false,[.ai],.slice 56,false⟩
def Ng:TI:=⟨29,304,true,[.int .i64 0,.int .i64 0,.int .i64 0,.int .i64 0,.int .i64 0,.int .i64 0,.int .i64 0,.bool false,.str [],.int .i64 0,.int .i64 0,.int .i64 0,.bool false,.str [],.int .i64 0,.int .i64 0,.int .i64 0,.bool false,.str [],.int .i64 0,.int .i64 0,.int .i64 0,.int .i64 0,.str [],.ai,.ai,.ai,.bool false,.bool false],.struct [(0,1,3),(1,1,3),(2,1,3),(3,1,3),(4,5,56),(9,5,56),(14,5,56),(19,1,3),(20,1,3),(21,1,3),(22,2,58),(24,1,59),(25,1,26),(26,1,60),(27,1,4),(28,1,4)],false⟩
def Nh:TI:=⟨1,24,false,[.ai],.slice 77,false⟩
def Ni:TI:=⟨1,24,false,[.ai],.slice 34,false⟩
def Nj:TI:=⟨1,8,false,[.cY],.func,false⟩
def Nk:TI:=⟨2,16,true,[.int .i64 0,.int .i64 0],.array 2 3,true⟩
def Nl:TI:=⟨1,8,false,[.cY],.func,false⟩
def Nn:TI:=⟨3,56,true,[.ai,.int .i64 0,.ai],.struct [(0,1,42),(1,1,3),(2,1,26)],false⟩
def No:TI:=⟨1,24,false,[.ai],.slice 91,false⟩
def Np:TI:=⟨1,24,false,[.ai],.slice 128,false⟩
def Nq:TI:=⟨1,8,false,[.cY],.func,false⟩
def LY:TI:=⟨8,160,true,[.ai,.int .i64 0,.ai,.ai,.ai,.ai,.ai,.int .i64 0],.struct [(0,7,31),(7,1,3)],false⟩
def LZ:TI:=⟨15,328,true,[.ai,.int .i64 0,.ai,.ai,.ai,.ai,.ai,.ai,.int .i64 0,.ai,.ai,.ai,.ai,.ai,.ai],.struct [(0,7,31),(7,7,31),(14,1,39)],false⟩
def L0:TI:=⟨1,8,false,[.fS],.map 3 111,false⟩
def L1:TI:=⟨2,32,true,[.bool false,.ai],.struct [(0,1,4),(1,1,26)],false⟩
def L3:TI:=⟨3,40,true,[.fS,.bool false,.ai],.struct [(0,1,109),(1,2,111)],false⟩
def L4:TI:=⟨1,24,false,[.ai],.slice 113,false⟩
def L5:TI:=⟨1,24,false,[.ai],.slice 181,false⟩
def L6:TI:=⟨7,112,true,[.str [],.int .i64 0,.int .i64 0,.int .i64 0,.ai,.ai,.ai],.struct [(0,1,9),(1,1,3),(2,1,3),(3,1,3),(4,1,23),(5,1,118),(6,1,60)],false⟩
def L7:TI:=⟨2,24,true,[.str [],.int .i64 0],.struct [(0,1,9),(1,1,3)],true⟩
def Ea:TI:=⟨1,8,false,[.int .u64 0],.int .u64,true⟩
def L8:TI:=⟨1,24,false,[.ai],.slice 4,false⟩
def L9:TI:=⟨1,8,false,[.cY],.func,false⟩
def L_:TI:=⟨2,24,true,[.str [],.bool false],.struct [(0,1,9),(1,1,4)],true⟩
def Ma:TI:=⟨1,24,false,[.ai],.slice 146,false⟩
def Mb:TI:=⟨1,8,false,[.cY],.func,false⟩
def Mc:TI:=⟨3,24,true,[.int .i64 0,.int .i64 0,.int .i64 0],.array 3 3,true⟩
def Md:TI:=⟨1,8,false,[.cY],.func,false⟩
def Me:TI:=⟨1,8,false,[.int .u64 0],.int .u64,true⟩
def Mf:TI:=⟨1,8,false,[.dI],.ptr,false⟩
def Mg:TI:=⟨1,24,false,[.ai],.slice 227,false⟩
def Mh:TI:=⟨1,24,false,[.ai],.slice 230,false⟩
def Mi:TI:=⟨11,128,true,[.int .i64 0,.int .i64 0,.ai,.ai,.int .i64 0,.int .i64 0,.int .i64 0,.ai,.int .i64 0,.bool false,.bool false],.struct [(0,1,3),(1,1,3),(2,1,178),(3,1,179),(4,1,3),(5,1,3),(6,1,3),(7,1,59),(8,1,3),(9,1,4),(10,1,4)],false⟩
def Mj:TI:=⟨39,624,true,[.str [],.str [],.str [],.str [],.str [],.str [],.str [],.str [],.str [],.str [],.str [],.str [],.str [],.str [],.str [],.str [],.str [],.str [],.str [],.str [],.str [],.str [],.str [],.str [],.str [],.str [],.str [],.str [],.str [],.str [],.str [],.str [],.str [],.str [],.str [],.str [],.str [],.str [],.str []],.array 39 9,true⟩
def Mm:TI:=⟨1,8,false,[.cY],.func,false⟩
def Mn:TI:=⟨8,80,true,[.int .i64 0,.int .i64 0,.int .i64 0,.int .i64 0,.bool false,.str [],.int .i64 0,.str []],.struct [(0,1,3),(1,5,56),(6,2,58)],true⟩
def Mo:TI:=⟨4,40,true,[.int .i64 0,.int .i64 0,.int .i64 0,.str []],.struct [(0,1,3),(1,1,3),(2,1,3),(3,1,9)],true⟩
def Mq:TI:=⟨2,16,true,[.fS,.fS],.array 2 109,false⟩
def Mr:TI:=⟨1,8,true,[.int .i64 0],.struct [(0,1,34)],true⟩
def Mt:TI:=⟨8,160,true,[.ai,.int .i64 0,.ai,.ai,.ai,.ai,.int .i64 0,.ai],.struct [(0,6,28),(6,1,3),(7,1,26)],false⟩
def Mu:TI:=⟨1,24,false,[.ai],.slice 275,false⟩
def Mv:TI:=⟨11,128,true,[.int .i64 0,.int .i64 0,.int .i64 0,.int .i64 0,.ai,.ai,.int .i64 0,.int .i64 0,.int .i64 0,.bool false,.str []],.struct [(0,1,3),(1,1,3),(2,1,3),(3,1,3),(4,1,179),(5,1,225),(6,5,56)],false⟩
def Mx:TI:=⟨11,136,true,[.int .i64 0,.int .i64 0,.int .i64 0,.int .i64 0,.bool false,.str [],.int .i64 0,.str [],.int .i64 0,.ai,.ai],.struct [(0,1,3),(1,5,56),(6,2,58),(8,1,3),(9,1,179),(10,1,178)],false⟩
def My:TI:=⟨1,8,false,[.dI],.ptr,false⟩
def Mz:TI:=⟨6,56,true,[.str [],.bool false,.int .i64 0,.int .i64 0,.int .i64 0,.bool false],.struct [(0,1,9),(1,1,4),(2,1,3),(3,1,3),(4,1,3),(5,1,4)],true⟩
def MB:TI:=⟨1,24,false,[.ai],.slice 325,false⟩
def MC:TI:=⟨12,112,true,[.str [],.bool false,.int .i64 0,.int .i64 0,.int .i64 0,.bool false,.ai,.int .u8 0,.int .i64 0,.bool false,.int .u8 0,.int .i64 0],.struct [(0,6,239),(6,1,240),(7,1,5),(8,1,3),(9,1,4),(10,1,5),(11,1,3)],false⟩
def MD:TI:=⟨1,1,false,[.int .i8 0],.int .i8,true⟩
def zr:TI:=⟨2,2,true,[.int .i8 0,.int .i8 0],.array 2 244,true⟩
def ME:TI:=⟨64,64,true,[.int .i8 0,.int .i8 0,.int .i8 0,.int .i8 0,.int .i8 0,.int .i8 0,.int .i8 0,.int .i8 0,.int .i8 0,.int .i8 0,.int .i8 0,.int .i8 0,.int .i8 0,.int .i8 0,.int .i8 0,.int .i8 0,.int .i8 0,.int .i8 0,.int .i8 0,.int .i8 0,.int .i8 0,.int .i8 0,.int .i8 0,.int .i8 0,.int .i8 0,.int .i8 0,.int .i8 0,.int .i8 0,.int .i8 0,.int .i8 0,.int .i8 0,.int .i8 0,.int .i8 0,.int .i8 0,.int .i8 0,.int .i8 0,.int .i8 0,.int .i8 0,.int .i8 0,.int .i8 0,.int .i8 0,.int .i8 0,.int .i8 0,.int .i8 0,.int .i8 0,.int .i8 0,.int .i8 0,.int .i8 0,.int .i8 0,.int .i8 0,.int .i8 0,.int .i8 0,.int .i8 0,.int .i8 0,.int .i8 0,.int .i8 0,.int .i8 0,.int .i8 0,.int .i8 0,.int .i8 0,.int .i8 0,.int .i8 0,.int .i8 0,.int .i8 0],.array 32 245,true⟩
def MG:TI:=⟨1,8,false,[.int .i64 0],.int .i64,true⟩
def MI:TI:=⟨1,24,false,[.ai],.slice 5,false⟩
def MJ:TI:=⟨5,5,true,[.int .i8 0,.int .i8 0,.int .i8 0,.int .i8 0,.int .i8 0],.struct [(0,1,244),(1,1,244),(2,1,244),(3,1,244),(4,1,244)],true⟩
def MK:TI:=⟨115,115,true,[.int .i8 0,.int .i8 0,.int .i8 0,.int .i8 0,.int .i8 0,.int .i8 0,.int .i8 0,.int .i8 0,.int .i8 0,.int .i8 0,.int .i8 0,.int .i8 0,.int .i8 0,.int .i8 0,.int .i8 0,.int .i8 0,.int .i8 0,.int .i8 0,.int .i8 0,.int .i8 0,.int .i8 0,.int .i8 0,.int .i8 0,.int .i8 0,.int .i8 0,.int .i8 0,.int .i8 0,.int .i8 0,.int .i8 0,.int .i8 0,.int .i8 0,.int .i8 0,.int .i8 0,.int .i8 0,.int .i8 0,.int .i8 0,.int .i8 0,.int .i8 0,.int .i8 0,.int .i8 0,.int .i8 0,.int .i8 0,.int .i8 0,.int .i8 0,.int .i8 0,.int .i8 0,.int .i8 0,.int .i8 0,.int .i8 0,.int .i8 0,.int .i8 0,.int .i8 0,.int .i8 0,.int .i8 0,.int .i8 0,.int .i8 0,.int .i8 0,.int .i8 0,.int .i8 0,.int .i8 0,.int .i8 0,.int .i8 0,.int .i8 0,.int .i8 0,.int .i8 0,.int .i8 0,.int .i8 0,.int .i8 0,.int .i8 0,.int .i8 0,.int .i8 0,.int .i8 0,.int .i8 0,.int .i8 0,.int .i8 0,.int .i8 0,.int .i8 0,.int .i8 0,.int .i8 0,.int .i8 0,.int .i8 0,.int .i8 0,.int .i8 0,.int .i8 0,.int .i8 0,.int .i8 0,.int .i8 0,.int .i8 0,.int .i8 0,.int .i8 0,.int .i8 0,.int .i8 0,.int .i8 0,.int .i8 0,.int .i8 0,.int .i8 0,.int .i8 0,.int .i8 0,.int .i8 0,.int .i8 0,.int .i8 0,.int .i8 0,.int .i8 0,.int .i8 0,.int .i8 0,.int .i8 0,.int .i8 0,.int .i8 0,.int .i8 0,.int .i8 0,.int .i8 0,.int .i8 0,.int .i8 0,.int .i8 0,.int .i8 0],.array 23 269,true⟩
def ML:TI:=⟨14,160,true,[.int .i64 0,.int .i64 0,.int .i64 0,.int .i64 0,.bool false,.str [],.int .i64 0,.str [],.int .i64 0,.ai,.ai,.int .i64 0,.int .i64 0,.int .i64 0],.struct [(0,11,230),(11,1,3),(12,1,3),(13,1,3)],false⟩
def MM:TI:=⟨1,8,false,[.cY],.func,false⟩
def MO:TI:=⟨19,152,true,[.int .i64 0,.int .i64 0,.int .i64 0,.int .i64 0,.int .i64 0,.int .i64 0,.int .i64 0,.int .i64 0,.int .i64 0,.int .i64 0,.int .i64 0,.int .i64 0,.int .i64 0,.int .i64 0,.int .i64 0,.int .i64 0,.int .i64 0,.int .i64 0,.int .i64 0],.array 19 3,true⟩
def MQ:TI:=⟨1,8,false,[.int .u64 0],.int .u64,true⟩
def MR:TI:=⟨1,8,false,[.dI],.ptr,false⟩
def MS:TI:=⟨1,8,false,[.cY],.func,false⟩
def MV:TI:=⟨1,8,false,[.dI],.ptr,false⟩
def MW:TI:=⟨1,8,false,[.int .i64 0],.int .i64,true⟩
def MX:TI:=⟨1,8,false,[.dI],.ptr,false⟩
def MY:TI:=⟨6,56,true,[.dI,.str [],.bool false,.int .i64 0,.int .i64 0,.int .i64 0],.struct [(0,1,235),(1,1,9),(2,1,4),(3,1,3),(4,1,3),(5,1,3)],false⟩
def MZ:TI:=⟨1,8,false,[.cY],.func,false⟩
def M0:TI:=⟨6,48,true,[.cY,.cY,.cY,.cY,.cY,.cY],.array 6 334,false⟩
def M3:TI:=⟨20,20,true,[.int .u8 0,.int .u8 0,.int .u8 0,.int .u8 0,.int .u8 0,.int .u8 0,.int .u8 0,.int .u8 0,.int .u8 0,.int .u8 0,.int .u8 0,.int .u8 0,.int .u8 0,.int .u8 0,.int .u8 0,.int .u8 0,.int .u8 0,.int .u8 0,.int .u8 0,.int .u8 0],.array 20 5,true⟩
def M4:TI:=⟨1,8,false,[.dI],.ptr,false⟩
def M5:TI:=⟨2,32,true,[.dI,.ai],.struct [(0,1,358),(1,1,267)],false⟩
def M6:TI:=⟨1,8,false,[.dI],.ptr,false⟩
def wM:List (Nat×TI):=[(1,LX),(3,o6),(4,M8),(5,s8),(9,vq),(20,Ml),(21,Mp),(22,Ms),(23,Mw),(24,MA),(25,MF),(26,MH),(28,MN),(29,MP),(31,MT),(32,MU),(34,M1),(39,M7),(42,M9),(44,M_),(46,Na),(56,Nb),(58,Nc),(59,Nd),(60,Nf),(62,Ng),(69,Nh),(73,Ni),(75,Nj),(77,Nk),(81,Nl),(85,Nn),(88,No),(91,Np),(93,Nq),(106,LY),(108,LZ),(109,L0),(111,L1),(113,L3),(114,L4),(118,L5),(120,L6),(122,L7),(128,Ea),(134,L8),(145,L9),(146,L_),(147,Ma),(150,Mb),(157,Mc),(166,Md),(169,Me),(176,Mf),(178,Mg),(179,Mh),(181,Mi),(184,Mj),(200,Mm),(203,Mn),(209,Mo),(213,Mq),(219,Mr),(223,Mt),(225,Mu),(227,Mv),(230,Mx),(235,My),(239,Mz),(240,MB),(242,MC),(244,MD),(245,zr),(246,ME),(258,MG),(267,MI),(269,MJ),(270,MK),(275,ML),(277,MM),(282,MO),(300,MQ),(304,MR),(309,MS),(323,MV),(325,MW),(329,MX),(331,MY),(334,MZ),(336,M0),(349,M3),(358,M4),(360,M5),(376,M6)]
def Bk:Tr TI:=(.node (.node (.node (.node (.node (.node .nil (some MT) (.node .nil none (.node .nil (some Mt) .nil))) none (.node .nil none (.node .nil (some L1) (.node .nil (some Mz) .nil)))) none (.node (.node .nil (some M7) .nil) (some Mw) .nil)) (some o6) (.node (.node (.node (.node .nil none (.node (.node .nil (some MV) .nil) none .nil)) none (.node .nil none (.node .nil (some Mv) .nil))) none (.node (.node (.node (.node .nil (some ML) .nil) (some Ma) .nil) none .nil) none (.node (.node .nil (some Mh) .nil) none .nil))) none (.node (.node (.node (.node (.node .nil (some MI) .nil) none .nil) (some Nj) (.node (.node .nil (some MY) .nil) (some Mn) .nil)) none (.node .nil none (.node .nil (some My) .nil))) none (.node (.node .nil (some Np) (.node .nil (some Mr) .nil)) (some Nd) .nil)))) (some LX) (.node (.node (.node (.node .nil none (.node .nil none (.node .nil (some Mu) .nil))) none (.node (.node (.node .nil (some L9) .nil) (some Nl) (.node .nil (some Mo) .nil)) none (.node .nil (some L3) .nil))) (some vq) (.node (.node (.node .nil (some Ni) (.node (.node .nil (some MX) .nil) none .nil)) none (.node (.node .nil (some Me) .nil) none .nil)) (some MF) .nil)) (some s8) (.node (.node (.node (.node .nil (some Nh) (.node (.node .nil (some MW) .nil) none .nil)) none .nil) (some Mp) (.node (.node (.node (.node .nil (some MM) .nil) none .nil) (some Nn) (.node .nil (some Mq) .nil)) none (.node (.node (.node .nil (some MS) .nil) (some Mi) .nil) none (.node .nil (some zr) .nil)))) none (.node (.node (.node (.node (.node .nil (some MJ) .nil) none .nil) (some Nk) .nil) none (.node .nil (some L0) .nil)) (some MP) (.node (.node (.node .nil (some Mc) .nil) (some Nq) (.node (.node .nil (some M3) .nil) none .nil)) none .nil))))) none (.node (.node (.node (.node (.node (.node (.node .nil (some Ea) .nil) none .nil) (some MU) .nil) none (.node (.node .nil none (.node (.node .nil (some M0) .nil) none .nil)) none (.node (.node (.node .nil (some MR) .nil) (some Mf) .nil) none (.node .nil (some MB) .nil)))) none (.node (.node (.node .nil none (.node .nil (some Mm) .nil)) none (.node .nil none (.node (.node .nil (some M5) .nil) none .nil))) (some MA) (.node (.node .nil (some No) .nil) (some Nb) (.node (.node .nil (some Mj) .nil) (some L6) (.node (.node .nil (some M6) .nil) none .nil))))) (some M8) (.node (.node .nil (some Ml) (.node .nil none (.node .nil none (.node .nil (some MD) .nil)))) none (.node (.node .nil (some M_) (.node (.node (.node .nil (some MQ) .nil) none .nil) (some LZ) .nil)) (some MN) (.node .nil (some Nf) .nil)))) none (.node (.node (.node (.node (.node (.node (.node .nil (some MG) .nil) none .nil) none .nil) (some M1) .nil) none (.node (.node (.node .nil (some L_) .nil) none .nil) none (.node (.node .nil (some Mg) .nil) (some L4) (.node .nil (some MC) .nil)))) none (.node (.node .nil (some M9) (.node .nil (some LY) .nil)) (some MH) (.node (.node (.node (.node .nil (some MO) .nil) none .nil) none .nil) (some Nc) (.node .nil (some L7) .nil)))) none (.node (.node (.node (.node (.node .nil (some L8) .nil) none .nil) none (.node (.node .nil (some Md) .nil) none (.node (.node .nil (some M4) .nil) (some Mx) .nil))) (some Ms) (.node (.node (.node .nil (some Mb) .nil) none .nil) none (.node .nil (some L5) (.node .nil (some ME) .nil)))) none (.node (.node (.node (.node (.node .nil (some MK) .nil) none .nil) none (.node (.node .nil (some MZ) .nil) none .nil)) (some Na) .nil) none (.node .nil (some Ng) .nil))))))
theorem RB:Bk=xK wM .nil:=by kernel_rfl
theorem Ry:(wM.all fun p=>ble (p.1+2) 16777216)=true:=by kernel_rfl
theorem Rw:(wM.all fun p=>zt prog p.1 p.2)=true:=by kernel_rfl
end Go.Ago
namespace Go.Ago
open List Nat
theorem PC.qu {P:Program}{E:Env}{g:FuncId}{args:List AV}{Q:AE->Prop}(b:qY P g)
 (h:∀c w vs,aN E.bS c w .nil->aP c w args vs->Calls P g vs.toArray w fun e w'=>w'=w∧∃a,lT c w a e∧Q a):PC P E g args Q:=by
 refine⟨b,fun c w vs f d j=>(h c w _ d j).mono ?_⟩
 rintro e w' ⟨rfl,a,k,i⟩
 exact⟨c,a,Ext.refl _ _ _,f,d,k,i⟩
theorem PC.mono {P:Program}{E:Env}{g:FuncId}{args:List AV}{Q b:AE->Prop}(h:PC P E g args Q)(e:∀a,Q a->b a):PC P E g args b:=
 ⟨h.1,fun c w p i j k=>(h.2 c w _ i j k).mono fun _ _ ⟨f,a,m,l,n,o,d⟩=>⟨f,a,m,l,n,o,e _ d⟩⟩
end Go.Ago
namespace Go.Ago
open Go.Proofs List Nat Tryz
def GC (P:Program)(p:Nat×TI):Bool:=!p.2.kI || (!P.eqGuardType P.depth p.1 && (match p.2.desc with | .struct _=>!P.stoodInHeld p.1|_=>true))
theorem Rx:(wM.all fun p=>GC prog p)=true:=by kernel_rfl
theorem RA (G:eZ):bZ prog ⟨Bk.get,G⟩:=Rz RB Ry Rw fun p hp he=>by
 have h:=zbr.1 Rx p hp;simp only[GC,he,Bool.not_true,Bool.false_or,zbe,zb4] at h;refine⟨h.1,fun fs hd=>?_⟩
 have h2:=h.2;rw[hd] at h2
 simpa using h2
end Go.Ago
