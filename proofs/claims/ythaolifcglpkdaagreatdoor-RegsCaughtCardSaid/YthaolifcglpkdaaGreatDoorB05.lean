/-
  Part B05: lemmas, each with its own conditions.
-/
import Derived.RangeFuncLeaves
import Derived.OrdersIn
import Derived.LoopNIn
import Derived.RangeFuncRecord
import Derived.Deep.LoopGhost
import Derived.Orders
import Derived.Test.YthaolifcglpkdaaGreatDoorB04
set_option maxRecDepth 100000
set_option maxHeartbeats 0
set_option linter.all false
section
namespace Go.Ago
open List Nat
inductive AE where
 | ret (v:AV)
 | aU (v:AV)
inductive AX where
 | normal
 | exit (id:Nat)
 | goto (l:Nat)
 | ret
 | aU (v:AV)
def lT (c:Ctx)(w:World):AE->Ending->Prop
 | .ret x,.returned v=>Rel c w x v
 | .aU x,.panicked a=>∃v,a=[{ v,recovered:=false }]∧Rel c w x v
 | _,_=>False
def vN (c:Ctx)(w:World):AX->Exit->Prop
 | .normal,.normal | .ret,.ret=>True
 | .exit i,.exit j | .goto i,.goto j=>i=j
 | .aU x,.panic a=>∃v,a=[{ v,recovered:=false }]∧Rel c w x v
 | _,_=>False
structure ExtM (m:Nat)(c:Ctx)(w:World)(H:aj)(c':Ctx)(w':World)(H':aj):Prop where
 f:∀k,k<m->c'.f k=c.f k
 aq:∀b,c.aq b->c'.aq b
 os:w'.os=w.os
 tape:w'.tape=w.tape
 output:w'.output=w.output
 size:w.heap.size≤w'.heap.size
 other:∀b,b<w.heap.size->¬Own c H b->w'.heap[b]? = w.heap[b]?
 ez:∀b,c'.aq b->c.aq b∨Own c H b∨w.heap.size≤b
 own:∀b,Own c' H' b->Own c H b∨w.heap.size≤b
section
variable {m:Nat} {c c' c'':Ctx} {w w' w'':World} {H H' H'':aj}
theorem ExtM.refl (m:Nat)(c:Ctx)(w:World)(H:aj):ExtM m c w H c w H:=
 ⟨fun _ _=>rfl,fun _ h=>h,rfl,rfl,rfl,zbm _,fun _ _ _=>rfl,fun _ h => .inl h,fun _ h => .inl h⟩
theorem ExtM.trans (h:ExtM m c w H c' w' H')(d:ExtM m c' w' H' c'' w'' H''):ExtM m c w H c'' w'' H'':={
 f k l:=(d.f k l).trans (h.f k l)
 aq b e:=d.aq b (h.aq b e)
 os:=d.os.trans h.os
 tape:=d.tape.trans h.tape
 output:=d.output.trans h.output
 size:=zbu h.size d.size
 other b e n := (d.other b (zbJ e h.size) (fun o=>by
  rcases h.own b o with a|a<;>grind)).trans (h.other b e n)
 ez b e:=by
  rcases d.ez b e with a|a|a
  . exact h.ez b a
  . rcases h.own b a with p | p
    . grind
    omega
  exact .inr (.inr (zbu h.size a))
 own b e:=by
  rcases d.own b e with a|a
  . exact h.own b a
  exact .inr (zbu h.size a) }
theorem ExtM.less {a:Nat}(h:ExtM m c w H c' w' H')(d:a≤m):ExtM a c w H c' w' H':={ h with f:=fun k b=>h.f k (zbJ b d) }
theorem Ext.toM (h:Ext c w H c' w' H')(a:∀k,k<m->c'.f k=c.f k):ExtM m c w H c' w' H':=
 ⟨a,h.le.aq,h.os,h.tape,h.output,h.size,h.other,h.ez,h.own⟩
theorem ExtM.drew (h:ExtM m c w H c' w' H'):ExtM m c w H c' w'.drew H':=⟨h.f,h.aq,h.os,h.tape,h.output,h.size,h.other,h.ez,h.own⟩
end
def FR (r:Option Nat):Fence:={ Fence.wide with round:=r }
theorem Fx {r:Option Nat}{n:Nat}{P:Program}{f:FuncId}{args:Array Value}{w:World}{R:Ending->World->Prop}:CallsIn (FR r) n P f args w R↔Calls P f args w R:=
 callsIn_wide
def iN (c:Ctx)(w:World):Nat->List Deferred->Prop
 | _,[]=>True
 | b,d::e=>∃D,d={ target := .collected D,args:=#[] }∧D<b∧¬c.aq D∧w.heap[D]? = some (.deferred (some []))∧iN c w D e
theorem iN.mono {c c':Ctx}{w w':World}:∀{hi a:Nat} {i:List Deferred},iN c w hi i->hi≤a->(∀D,D<hi->¬c.aq D->w.heap[D]? = some (.deferred (some []))->¬c'.aq D∧w'.heap[D]? = some (.deferred (some [])))->iN c' w' a i
 | _,_,[],_,_,_=>trivial
 | _, _, _ :: _, ⟨D, j, b, g, f, k⟩, e, h =>
   ⟨D,j,zbJ b e,(h D b g f).1,(h D b g f).2,iN.mono k (ag) fun l d=>h _ (Nat.lt_trans d b)⟩
theorem aN.xN {G:eZ}{c:Ctx}{w:World}{H:aj}(h:aN G c w H){D:Nat}{x:Option (List Deferred)}(C:w.heap[D]? = some (.deferred x)):¬Own c H D:=by
 rintro⟨k,o,B,v,z,rfl⟩
 obtain⟨K,q,_,b⟩:=h.obj k o v;cases o with
 | arr J l=>obtain⟨arr,t,d,_⟩:=b;grind
 | dJ s n=>have:=b.1;grind
 | lp I i A u j=>obtain⟨r,g,d,_⟩:=b;grind
 | mp l=>obtain⟨_,f,a,d,_⟩:=b;grind
 | cm m l=>obtain⟨_,r,f,a,seen,d,_⟩:=b;grind
theorem ExtM.defs {m:Nat}{G:eZ}{c c':Ctx}{w w':World}{H H':aj}(h:ExtM m c w H c' w' H')(f:aN G c w H){e:List Deferred}(i:iN c w w.heap.size e):iN c' w' w'.heap.size e:=
 i.mono h.size fun D d j b=>⟨fun a=>by
  rcases h.ez D a with g|g|g
  . grind
  . exact f.xN b g
  omega,(h.other D d (f.xN b)).trans b⟩
theorem Ext.defs {G:eZ}{c c':Ctx}{w w':World}{H H':aj}(h:Ext c w H c' w' H')(d:aN G c w H){a:List Deferred}(b:iN c w w.heap.size a):iN c' w' w'.heap.size a:=
 ExtM.defs (m:=0) (h.toM (ag)) d b
def Gd (w:World)(a c:Act):Prop:=∃b,c.defers=b++a.defers∧∀d∈b,∃D,d={ target := .collected D,args:=#[] }∧w.heap.size≤D
theorem Gd.refl (w:World)(a:Act):Gd w a a:=⟨[],rfl,ag⟩
theorem Gd.trans {w w':World}{a g b:Act}(h:Gd w a g)(f:Gd w' g b)(k:w.heap.size≤w'.heap.size):Gd w a b:=by
 obtain⟨i,e,h⟩:=h;obtain⟨c,l,f⟩:=f;refine⟨c++i,by grind,fun d j=>?_⟩
 grind
theorem Gd.same {w:World}{a c b:Act}(h:Gd w a c)(e:b.defers=c.defers):Gd w a b:=by
 obtain⟨f,d,h⟩:=h;exact⟨f,e.trans d,h⟩
theorem put_defers (a:Act)(d:Option Tmp)(v:Value):(a.put d v).defers=a.defers:=by cases d<;>rfl
structure ep (m:Nat)(c:Ctx)(a:Act)(w:World)(H:aj)(c':Ctx)(a':Act)(w':World)(H':aj):Prop extends ExtM m c w H c' w' H' where
 gd:Gd w a a'
section
variable {m:Nat} {c c' c'':Ctx} {a a' a'':Act} {w w' w'':World} {H H' H'':aj}
theorem ep.refl (m:Nat)(c:Ctx)(a:Act)(w:World)(H:aj):ep m c a w H c a w H:=⟨ExtM.refl m c w H,Gd.refl w a⟩
theorem ep.trans (h:ep m c a w H c' a' w' H')(g:ep m c' a' w' H' c'' a'' w'' H''):ep m c a w H c'' a'' w'' H'':=⟨h.toExtM.trans g.toExtM,h.gd.trans g.gd h.size⟩
theorem ep.jj (h:ep m c a w H c' a' w' H')(j:ExtM m c' w' H' c'' w'' H'')(e:a''.defers=a'.defers):ep m c a w H c'' a'' w'' H'':=⟨h.toExtM.trans j,h.gd.same e⟩
end
structure c9 (P:Program)(E:Env)(c:Ctx)(S:St)(a:Act)(w:World):Prop where
 size:a.tmps.size=S.bL
 bu:∀t x,S.bu.get t=some x->∃v,a.tmps[t]? = some v∧Rel c w x v
 defers:iN c w w.heap.size a.defers
 bC:aN E.bS c w S.heap
 fresh:∀k,S.next≤k->c.f k=none
def qY (P:Program)(g:FuncId):Prop:=∃a,P.funcs[g]? = some a∧a.body.isSome=true∧a.name ≠ "runtime.NumGoroutine"
def AC (P:Program)(E:Env)(g:FuncId)(args:List AV)(H:aj)(nx:Nat)(R:AE->aj->Nat->Prop):Prop:=
 qY P g∧∀c w j,aN E.bS c w H->(∀k,nx≤k->c.f k=none)->aP c w args j->
  Calls P g j.toArray w fun e h=>∃b d a i,ExtM nx c w H b h d∧aN E.bS b h d∧nx≤a∧(∀k,a≤k->b.f k=none)∧lT b h i e∧R i d a
def PC (P:Program)(E:Env)(g:FuncId)(args:List AV)(Q:AE->Prop):Prop:=
 qY P g∧∀c w h,(∀k,c.f k=none)->aN E.bS c w .nil->aP c w args h->
  Calls P g h.toArray w fun e b=>∃a d,Ext c w .nil a b .nil∧(∀k,a.f k=none)∧aN E.bS a b .nil∧lT a b d e∧Q d
def QS (P:Program)(E:Env)(m:Nat)(c0:Ctx)(a0:Act)(w0:World)(S0:St)(K:AX->St->Prop):Exit->Act->World->Prop:=
 fun e f b=>∃c a d,ep m c0 a0 w0 S0.heap c f b a.heap∧S0.next≤a.next∧c9 P E c a f b∧vN c b d e∧K d a
def SW (P:Program)(E:Env)(b:Bool)(code:Code)(K:AX->St->Prop)(S:St):Prop:=
 ∀r,(b=false->r=none)->∀m,m≤S.next->∀c a w,c9 P E c S a w->code.wpIn (FR r) 0 P (QS P E m c a w S K) a w
def AY (P:Program)(E:Env)(k:Nat)(args:List AV)(H:aj)(nx:Nat)(R:AE->aj->Nat->Prop):Prop:=
 ∀c w h,aN E.bS c w H->(∀j,nx≤j->c.f j=none)->aP c w args h->∃B a,c.f k=some B∧w.heap[B.b]? = some (.loop a)∧h.length=a.params.size ∧
  RoundIn Fence.wide 0 P B.b a.fn ((a.params.zip h.toArray).foldl (fun t (p,v)=>t.setIfInBounds p v) a.tmps) a.assign a.body w fun e i=>
   ∃g l d m,ExtM nx c w H g i l∧aN E.bS g i l∧nx≤d∧(∀k,d≤k->g.f k=none)∧lT g i m e∧R m l d
def cv (S:St):Option Tmp->Bool
 | none=>true
 | some d=>blt d S.bL && ble (d+2) 16777216
def St.put (S:St)(a:Option Tmp)(v:AV)(H:aj)(nx:Nat):St:=
 { bu:=match a with
  | none=>S.bu
  | some d=>S.bu.set 24 d (some v),bL:=S.bL,heap:=H,next:=nx }
def pF (P:Program)(E:Env)(f:AV)(args:List AV)(S:St)(d:Option Tmp)(b:St->Prop)(K:AX->St->Prop):Prop:=
 match f with
 | .fn (.func g) c h => AC P E g (c ++ args ++ h) S.heap S.next fun i e a => match i with
   | .ret v=>b (S.put d v e a)
   | .aU v=>K (.aU v) (S.put none .any e a)
 | .fZ k => AY P E k args S.heap S.next fun i e a => match i with
   | .ret v=>b (S.put d v e a)
   | .aU v=>K (.aU v) (S.put none .any e a)
 | _=>False
def lq (P:Program)(E:Env)(nm:Nat)(o:Oper)(S:St)(a:St->Prop)(K:AX->St->Prop):Prop:=
 cv S o.dst=true∧match o.op with
  | .call { callee := .value f,args,.. }=>pF P E (S.ev E f) (args.toList.map (S.ev E)) S o.dst a K
  | d=>(cf E nm (S.ev E) d).holds S.heap (fun b=>a (S.put o.dst b.val (bo.dK S.heap b.up) S.next)) (fun v=>K (.aU v) S)
def gO (ops:List Oper)(S:St)(j:Nat)(a:Bool):Option Bool:=
 match ops[j]? with
 | some o => match o.dst with
   | some d => match S.bu.get d with
     | some (.bool b)=>some (b == a)
     | some (.ao [])=>some false
     | _=>none
   | none=>none
 | none=>none
theorem J6 {c:Ctx}{w:World}:Rel c w (.ao []) undef:=Rel.ao rfl ag
def gate (ops:List Oper)(S:St)(g:Option (Nat×Bool))(p q:Prop):Prop:=
 match g with
 | none=>p
 | some (j, a) => match gO ops S j a with
   | some b=>(b=true->p)∧(b=false->q)
   | none=>False
def jF (P:Program)(E:Env)(ops:List Oper)(a:Nat)(K:AX->St->Prop):List Oper->Nat->St->Prop
 | [],_,S=>K .normal S
 | o::b,i,S=>gate ops S o.guard (lq P E (a+i) o S (jF P E ops a K b (i+1)) K) (cv S o.dst=true∧jF P E ops a K b (i+1) (S.put o.dst (.ao []) S.heap S.next))
def aw (P:Program)(E:Env)(d:Bool):Code->(AX->St->Prop)->St->Prop
 | .skip,K,S=>K .normal S
 | .label _,K,S=>K .normal S
 | .exit i,K,S=>K (.exit i) S
 | .goto l,K,S=>K (.goto l) S
 | .ret,K,S=>K .ret S
 | .region _ c false,K,S=>jF P E c.toList S.next K c.toList 0 { S with next:=S.next+c.size }
 | .seq a b,K,S=>aw P E d a (fun e f=>match e with | .normal=>aw P E d b K f|e=>K e f) S
 | .cond x t e, K, S => match S.ev E x with
   | .bool b=>(b=true->aw P E d t K S)∧(b=false->aw P E d e K S)
   | _=>False
 | .block id h, K, S => aw P E d h (fun e f => match e with
   | .exit j=>(j=id->K .normal f)∧(j≠id->K (.exit j) f)
   | e=>K e f) S
 | g,K,S=>SW P E d g K S
section
variable {P:Program} {E:Env} {c:Ctx} {S:St} {a:Act} {w:World}
theorem Ga (v:Value):Rel c w (wF v) v:=by
 unfold wF;split<;>constructor
theorem QU (v:Value):Rel c w (A3 v) v:=by
 unfold A3;split
 . rename_i b
   have : Rel c w (.agg (b.toList.map _)) (.agg b.toList.toArray) := Rel.agg ag (fun i x v e f=>by
    simp only[zbC,zcu] at e;obtain⟨u,d,rfl⟩:=e;rw[f] at *;cases d;exact Ga v)
   omega
 exact Ga v
theorem c9.ev (h:c9 P E c S a w)(x:Operand):Rel c w (S.ev E x) (a.eval x):=by
 cases x with
 | tmp t =>
   simp[St.ev,Act.eval];cases e:S.bu.get t with
   | none=>exact .any _
   | some x =>
     obtain⟨v,l,k⟩:=h.bu t x e
     simp_all
 | const v=>exact QU v
 | global g =>
   simp only[St.ev];cases e:E.bS g with
   | none=>exact .any _
   | some m=>exact h.bC.bS g _ e
 | func f =>
   have:=Rel.fn (c:=c) (w:=w) (.func f) (xs:=[]) (ys:=[]) (vs:=[]) (us:=[]) rfl rfl ag ag
   assumption
theorem c9.put {c':Ctx}{w':World}{H':aj}{i:Nat}(h:c9 P E c S a w)(g:iN c' w' w'.heap.size a.defers)(z:∀{x v},Rel c w x v->Rel c' w' x v)(n:aN E.bS c' w' H')(r:∀k,i≤k->c'.f k=none){b:Option Tmp}(j:cv S b=true){x:AV}{v:Value}(s:Rel c' w' x v) :
 c9 P E c' (S.put b x H' i) (a.put b v) w':=by
 cases b with
 | none=>exact⟨h.size,fun t y e=>by obtain⟨u,q,p⟩:=h.bu t y e;exact⟨u,q,z p⟩,g,n,r⟩
 | some d =>
   simp only[cv,zbe] at j;have m:d<S.bL:=by simpa using j.1
   have l:(d+1:Nat)<2 ^ 24:=zbJ (lt_succ_self (d+1)) (zbu (zbb j.2) ab);refine⟨by simpa[Act.put,St.put] using h.size,fun t y e=>?_,g,n,r⟩
   simp only[St.put] at e;rw[Tr.eQ 24 d _ _ t l] at e;simp only[Act.put]
   by_cases o:t=d
   . subst o
     simp_all
     subst e;exact⟨v,by simp[h.size,m],s⟩
   . rw [if_neg o] at e
     obtain⟨u,q,p⟩:=h.bu t y e
     grind
theorem qH {g:FuncId}(h:qY P g)(args:Array Value)(w:World):(callFunc g args).run P w = .ok (.enter g args) w:=by
 obtain⟨d,e,i,f⟩:=h;have b:¬d.body=none:=by grind
 simp[callFunc,e,f,b]
structure Mid (P:Program)(E:Env)(m:Nat)(c0:Ctx)(a0:Act)(w0:World)(S0:St)(lo hi:Nat)(c:Ctx)(S:St)(a:Act)(w:World):Prop where
 ext:ep m c0 a0 w0 S0.heap c a w S.heap
 jc:S0.next≤S.next
 top:hi≤S.next
 iE:m≤lo
 bI:c9 P E c S a w
 free:∀k,lo≤k->k<hi->c.f k=none
theorem nU {r:Option Nat}{o:Oper}{N:Act->World->Prop}{Q:Exit->Act->World->Prop}(f:∀c,o.op≠.defer c)(g:∀b args w',(execOp a.eval o).run P w≠.ok (.row b args) w')(h:o.wp P a w N Q):o.wpIn (FR r) 0 P a w N Q:=by
 refine⟨fun _ _=>trivial,?_⟩
 rw[Oper.semAt_eq _ _ _ f];unfold Oper.wp at h
 generalize d:(execOp _ o).run P w=e at *
 unfold Oper.upon at h;split at h
 . exact h
 . exact h
 . exact h
 . exact⟨(fun h=>by cases h),Fx.2 h⟩
 . grind
 . exact h
 grind
variable {m lo hi:Nat} {c0:Ctx} {a0:Act} {w0:World} {S0:St} {K:AX->St->Prop} {rr:Bool} {r:Option Nat}
theorem Oj (hE:bZ P E){o:Oper}{Q:St->Prop}(d:Mid P E m c0 a0 w0 S0 lo hi c S a w)(hlt:lo<hi)(h:lq P E lo o S Q K){N:Act->World->Prop}
 (hN:∀c' S' a' w',Mid P E m c0 a0 w0 S0 (lo+1) hi c' S' a' w'->Q S'->N a' w'):o.wpIn (FR r) 0 P a w N (QS P E m c0 a0 w0 S0 K):=by
 obtain⟨hd,h⟩:=h;have hlo:c.f lo=none:=d.free lo (zbm _) hlt;have prim:∀op,o.op=op->(cf E lo (S.ev E) op).holds S.heap (fun I=>Q (S.put o.dst I.val (bo.dK S.heap I.up) S.next)) (fun v=>K (.aU v) S)->o.wpIn (FR r) 0 P a w N (QS P E m c0 a0 w0 S0 K):=by
  intro op V h;subst V;have hnd:∀c,o.op≠.defer c:=fun c e=>by rw[e] at h;assumption
  rcases Rd.r7 h with⟨I,T,M⟩|⟨v,T,M⟩
  . obtain ⟨nx, w', c', A, i, F, hf, hv⟩ := Dy hE d.bI.bC hlo d.bI.ev o T
    refine nU hnd (fun row j w'' e=>?_) ?_
    . grind
    unfold Oper.wp;rw[A];have W:∀{x v},Rel c w x v->Rel c' w' x v:=fun T=>i.rel d.bI.bC T
    have mid:∀v,Rel c' w' I.val v->Mid P E m c0 a0 w0 S0 (lo+1) hi c' (S.put o.dst I.val (bo.dK S.heap I.up) S.next) (a.put o.dst v) w':=fun v hv=>
     ⟨d.ext.jj (i.toM fun k M=>hf k (by have:=d.iE;omega)) (put_defers ..),d.jc,d.top,zc1 d.iE,
      d.bI.put (i.defs d.bI.bC d.bI.defers) W F (fun k M=>by rw[hf k (by have:=d.top;omega)];exact d.bI.fresh k M) hd hv,
      fun k h1 Y=>by rw[hf k aa];exact d.free k aa Y⟩
    rcases hv with⟨v,rfl,hv⟩|⟨rfl,hany⟩
    . exact hN _ _ _ _ (mid v hv) M
    . exact hN _ _ _ _ (mid undef (by rw[hany];exact .any _)) M
  . obtain ⟨u, A, hu⟩ := Dy hE d.bI.bC hlo d.bI.ev o T
    refine nU hnd (fun row j w'' e=>?_) ?_
    . grind
    unfold Oper.wp;rw[A];exact⟨c,S,.aU v,d.ext,d.jc,d.bI,⟨u,rfl,hu⟩,M⟩
 split at h
 . rename_i f j ts V
   have H:=d.bI.ev f;unfold pF at h;split at h
   . rename_i g first cap hev
     rw[hev] at H
     generalize X:a.eval f=fv at H
     cases H with
     | @fn _ _ _ _ _ vs us h1 Y hr1 hr2 =>
       obtain⟨hok,h⟩:=h;have D:=oS d.bI.ev j.toList;have hall:aP c w (first++j.toList.map (S.ev E)++cap) (vs++j.toList.map a.eval++us):=((aP.append ⟨h1,hr1⟩ D).append ⟨Y,hr2⟩);have U:=h c w _ d.bI.bC d.bI.fresh hall;have A:(execOp a.eval o).run P w = .ok (.enter g (vs++j.toList.map a.eval++us).toArray) w:=by
        have e:vs.toArray++j.map a.eval++us.toArray=(vs++j.toList.map a.eval++us).toArray:=by
         apply zcd;simp
        simp only[execOp,V,resolve,X,Deferred.ofValue,Sem.run_bind,Sem.run_pure,Result.andThen_ok,invoke,qH hok,e]
       refine nU (fun c e=>by grind) (fun row j w'' e=>by grind) ?_
       unfold Oper.wp;rw[A];refine U.mono ?_
       rintro e w' ⟨c',H',O,ae,i,F,L,C,l,hR⟩
       have Z:c.le c':=by
        refine⟨fun k p e=>?_,i.aq⟩
        by_cases M:k<S.next
        . rw[i.f k M];exact e
        . rw[d.bI.fresh k aa] at e;cases e
       have W:∀{x v},Rel c w x v->Rel c' w' x v:=fun T=>T.mono Z (fun b hb=>i.other b (d.bI.bC.bN b hb) (d.bI.bC.kQ hb))
       have y:=i.less (by have:=d.iE;have:=d.top;omega:m≤S.next)
       have R:=i.defs d.bI.bC d.bI.defers;have hn:=zbu d.jc L;cases ae with
       | ret x =>
         cases e with
         | returned v =>
           refine hN c' (S.put o.dst x H' O) _ _ ⟨d.ext.jj y (put_defers ..),hn,zbu d.top L,zc1 d.iE,d.bI.put R W F C hd l,fun k h1 Y=>?_⟩ hR
           rw[i.f k (by have:=d.top;omega)]
           exact d.free k aa Y
         | panicked _=>exact l.elim
         | outgrown=>exact l.elim
       | aU x =>
         cases e with
         | panicked chain=>exact⟨c',S.put none .any H' O,.aU x,d.ext.jj y rfl,hn,d.bI.put R W F C rfl (.any undef),l,hR⟩
         | returned _=>exact l.elim
         | outgrown=>exact l.elim
   . rename_i k hev
     rw[hev] at H
     generalize X:a.eval f=fv at H
     cases H with
     | @fZ _ _ _ B hB =>
       have D:=oS d.bI.ev j.toList;obtain⟨B',z,hB',hrec,hlen,G⟩:=h c w _ d.bI.bC d.bI.fresh D;rw[hB] at hB';cases hB';refine⟨fun _ _=>trivial,?_⟩
       rw[Oper.semAt_eq _ _ _ (fun c e=>by grind)]
       have hsz:(j.map a.eval).size=z.params.size:=by rw[<-hlen];simp
       have hlist:(j.toList.map a.eval).toArray=j.map a.eval:=by apply zcd;simp
       rw[hlist] at G;have A:(execOp a.eval o).run P w = .ok (.round B.b z.fn ((z.params.zip (j.map a.eval)).foldl (fun t (p,v)=>t.setIfInBounds p v) z.tmps) z.assign z.body) w:=by
        have:=run_yield (P:=P) (args:=j.map a.eval) hrec hsz;simp only[execOp,V,resolve,X,Deferred.ofValue,Sem.run_bind,Sem.run_pure,Result.andThen_ok,invoke]
        simpa using this
       rw[A,Oper.uponIn_round];refine⟨(fun h=>by cases h),?_⟩
       have J:RoundIn (FR r) 0 P B.b z.fn ((z.params.zip (j.map a.eval)).foldl (fun t (p,v)=>t.setIfInBounds p v) z.tmps) z.assign z.body w _:=G
       refine J.mono ?_
       rintro e w' ⟨c',H',O,ae,i,F,L,C,l,hR⟩
       have Z:c.le c':=by
        refine⟨fun k p e=>?_,i.aq⟩
        by_cases M:k<S.next
        . rw[i.f k M];exact e
        . rw[d.bI.fresh k aa] at e;cases e
       have W:∀{x v},Rel c w x v->Rel c' w' x v:=fun T=>T.mono Z (fun b hb=>i.other b (d.bI.bC.bN b hb) (d.bI.bC.kQ hb))
       have y:=i.less (by have:=d.iE;have:=d.top;omega:m≤S.next)
       have R:=i.defs d.bI.bC d.bI.defers;have hn:=zbu d.jc L;cases ae with
       | ret x =>
         cases e with
         | returned v =>
           refine hN c' (S.put o.dst x H' O) _ _ ⟨d.ext.jj y (put_defers ..),hn,zbu d.top L,zc1 d.iE,d.bI.put R W F C hd l,fun k h1 Y=>?_⟩ hR
           rw[i.f k (by have:=d.top;omega)]
           exact d.free k aa Y
         | panicked _=>exact l.elim
         | outgrown=>exact l.elim
       | aU x =>
         cases e with
         | panicked chain=>exact⟨c',S.put none .any H' O,.aU x,d.ext.jj y rfl,hn,d.bI.put R W F C rfl (.any undef),l,hR⟩
         | returned _=>exact l.elim
         | outgrown=>exact l.elim
   grind
 grind
theorem HA {ops:Array Oper}(y:c9 P E c S a w){o:Oper}{j:Nat}{g b:Bool}(q:o.guard=some (j,g))(h:gO ops.toList S j g=some b):Region.wanted o (yielded ops a.tmps)=b:=by
 simp only[gO] at h;cases n:ops.toList[j]? with
 | none=>grind
 | some p =>
   rw[n] at h;dsimp only at h;cases k:p.dst with
   | none=>grind
   | some d =>
     rw[k] at h;dsimp only at h;have i:ops[j]? = some p:=by simpa using n
     cases t:S.bu.get d with
     | none=>grind
     | some x =>
       rw[t] at h;obtain⟨v,s,u⟩:=y.bu d _ t;split at h
       . rename_i D e
         cases e;cases h;cases u;simp only[Region.wanted,q,yielded,i,zc0,k,s];rfl
       . rename_i e
         cases e;cases h;cases u with
         | @ao _ _ C z A _ =>
           have:z=[]:=zbh A.symm;subst this;simp only[Region.wanted,q,yielded,i,zc0,k,s];rfl
       grind
theorem Ar (D:bZ P E){ops:Array Oper}:∀(e:List Oper) (i d:Nat) (c:Ctx) (S:St) (a:Act) (w:World),ops.toList.drop i=e->
 Mid P E m c0 a0 w0 S0 (d+i) (d+ops.size) c S a w->jF P E ops.toList d K e i S->wpOpsIn (FR r) 0 P ops (QS P E m c0 a0 w0 S0 K) ((List.range ops.size).drop i) a w
 | [], i, d, c, S, a, w, t, f, h => by
   have M:ops.size≤i:=by
    have:=zbc length t;simp at this;omega
   rw[drop_eq_nil_of_le bj];exact⟨c,S,.normal,f.ext,f.jc,f.bI,trivial,h⟩
 | o :: e, i, d, c, S, a, w, t, f, h => by
   have M:i<ops.size:=by
    have:=zbc length t;simp at this;omega
   have L:ops[i]? = some o:=by
    have:(ops.toList.drop i)[0]? = some o:=by rw[t];rfl
    simpa using this
   have s:ops.toList.drop (i+1)=e:=by
    rw[<-drop_drop,t];rfl
   rw[zcr bj];simp only[getElem_range,wpOpsIn,L];have B:=Ar D (ops:=ops) e (i+1) d;have p:=fun u h=>
    B c (S.put o.dst (.ao []) S.heap S.next) _ w s ⟨f.ext.jj (ExtM.refl ..) (put_defers ..),f.jc,f.top,zc1 f.iE,f.bI.put f.bI.defers (fun h=>h) f.bI.bC f.bI.fresh u J6,fun k A z=>f.free k aa z⟩ h
   have I:lq P E (d+i) o S (jF P E ops.toList d K e (i+1)) K->o.wpIn (FR r) 0 P a w (wpOpsIn (FR r) 0 P ops (QS P E m c0 a0 w0 S0 K) ((List.range ops.size).drop (i+1))) (QS P E m c0 a0 w0 S0 K):=fun h=>
    Oj D f aa h (fun F O G H y J=>B F O G H s y J)
   simp only[jF,gate] at h;cases x:o.guard with
   | none =>
     rw[x] at h;have:Region.wanted o (yielded ops a.tmps)=true:=by simp[Region.wanted,x]
     grind
   | some q =>
     obtain⟨j,v⟩:=q;rw[x] at h;dsimp only at h;cases C:gO ops.toList S j v with
     | none=>grind
     | some b =>
       rw[C] at h;rw[HA f.bI x C];cases N:b with
       | true=>grind
       | false =>
         rw[if_neg ag];obtain⟨A,z⟩:=h.2 N;exact⟨fun _ _=>trivial,p A z⟩
theorem SW.frame {code:Code}{K:AX->St->Prop}(h:SW P E true code K S):SW P E rr code K S:=fun r _=>h r (ag)
theorem SW.mono {code:Code}{K K':AX->St->Prop}(h:SW P E rr code K S)(f:∀e S',K e S'->K' e S'):SW P E rr code K' S:=
 fun r g m i c a w j=>wpIn_mono (h r g m i c a w j) fun _ _ _ ⟨k,S',l,n,o,p,q,b⟩=>⟨k,S',l,n,o,p,q,f _ _ b⟩
theorem SW.seq {x y:Code}(h:SW P E rr x (fun e S'=>match e with | .normal=>SW P E rr y K S'|e=>K e S') S):SW P E rr (.seq x y) K S:=by
 intro r p m s c a w F;refine wpIn_seq (wpIn_mono (h r p m s c a w F) ?_)
 rintro e L z ⟨k,S',H,g,d,f,b,j⟩
 cases H with
 | normal =>
   cases e<;>first|exact b.elim|skip
   refine wpIn_mono (j r p m (zbu s d) k L z f) ?_
   rintro Q N O ⟨C,D,n,G,B,A,I,J⟩
   exact⟨C,D,n,g.trans G,zbu d B,A,I,J⟩
 | exit i=>cases e<;>first|exact b.elim|exact⟨k,S',_,g,d,f,b,j⟩
 | goto i=>cases e<;>first|exact b.elim|exact⟨k,S',_,g,d,f,b,j⟩
 | ret=>cases e<;>first|exact b.elim|exact⟨k,S',_,g,d,f,b,j⟩
 | aU v=>cases e<;>first|exact b.elim|exact⟨k,S',_,g,d,f,b,j⟩
theorem SW.block {id : Nat}{d : Code}(h : SW P E rr d (fun e S'=>match e with
 | .exit j=>(j=id->K .normal S')∧(j≠id->K (.exit j) S')
 | e=>K e S') S):SW P E rr (.block id d) K S:=by
 intro r t m u c a w z;refine wpIn_block (wpIn_mono (h r t m u c a w z) ?_)
 rintro e D C ⟨l,S',B,f,n,k,b,g⟩
 cases B with
 | exit i =>
   cases e<;>first|exact b.elim|skip
   rename_i j;obtain rfl:i=j:=b;simp only[Exit.inBlock]
   by_cases o:i=id
   . rw[if_pos o];exact⟨l,S',.normal,f,n,k,trivial,g.1 o⟩
   . rw[if_neg o];exact⟨l,S',.exit i,f,n,k,rfl,g.2 o⟩
 | normal=>cases e<;>first|exact b.elim|exact⟨l,S',_,f,n,k,b,g⟩
 | goto i=>cases e<;>first|exact b.elim|exact⟨l,S',_,f,n,k,b,g⟩
 | ret=>cases e<;>first|exact b.elim|exact⟨l,S',_,f,n,k,b,g⟩
 | aU v=>cases e<;>first|exact b.elim|exact⟨l,S',_,f,n,k,b,g⟩
theorem SW.region (f:bZ P E){id:Nat}{ops:Array Oper}(h:jF P E ops.toList S.next K ops.toList 0 { S with next:=S.next+ops.size }):SW P E rr (.region id ops false) K S:=by
 intro r i m e c a w b;refine wpIn_region ?_;have:=Ar (r:=r) f _ 0 _ c { S with next:=S.next+ops.size } a w rfl
  ⟨ep.refl m c a w S.heap,ag,ag,e,⟨b.size,b.bu,b.defers,b.bC,fun k j=>b.fresh k bj⟩,fun k d _=>b.fresh k d⟩ h
 grind
theorem SW.sB (f:bZ P E):∀{code:Code} {K:AX->St->Prop} {S:St},aw P E rr code K S->SW P E rr code K S
 | .skip,K,S,h=>fun r _ m _ c a w d=>wpIn_skip ⟨c,S,.normal,ep.refl m c a w _,zbm _,d,trivial,h⟩
 | .label _,K,S,h=>fun r _ m _ c a w d=>wpIn_label ⟨c,S,.normal,ep.refl m c a w _,zbm _,d,trivial,h⟩
 | .exit i,K,S,h=>fun r _ m _ c a w d=>wpIn_exit ⟨c,S,.exit i,ep.refl m c a w _,zbm _,d,rfl,h⟩
 | .goto i,K,S,h=>fun r _ m _ c a w d=>wpIn_goto ⟨c,S,.goto i,ep.refl m c a w _,zbm _,d,rfl,h⟩
 | .ret,K,S,h=>fun r _ m _ c a w d=>wpIn_ret ⟨c,S,.ret,ep.refl m c a w _,zbm _,d,trivial,h⟩
 | .region _ k false,K,S,h=>SW.region f h
 | .region _ k true,K,S,h=>h
 | .seq x y, K, S, h => SW.seq ((SW.sB f (code:=x) h).mono fun e u o=>by
  cases e<;>first|exact SW.sB f (code:=y) o|exact o)
 | .cond x t e, K, S, h => by
   intro r j m n c a w d;have l:=d.ev x;simp only[aw] at h;cases p:S.ev E x<;>rw[p] at h l<;>first|exact h.elim|skip
   rename_i b
   generalize s:a.eval x=v at l
   cases l;refine wpIn_cond s ?_;cases b with
   | true=>exact SW.sB f (code:=t) (h.1 rfl) r j m n c a w d
   | false=>exact SW.sB f (code:=e) (h.2 rfl) r j m n c a w d
 | .block id g,K,S,h=>SW.block (SW.sB f (code:=g) h)
 | .loop _,K,S,h=>h
 | .rangeFunc ..,K,S,h=>h
 | .scope _,K,S,h=>h
 | .refuse _,K,S,h=>h
end
end Go.Ago
end
section
namespace Go.Ago
open List Nat
def aM {α b:Type}(f:α->Option b):List α->Option (List b)
 | []=>some []
 | x :: l => match f x with
   | none=>none
   | some y => match aM f l with
     | none=>none
     | some c=>some (y::c)
theorem sj {α b:Type}{f:α->Option b}:∀{l:List α} {r:List b},aM f l=some r->r.length=l.length∧∀(i:Nat) x,l[i]? = some x->∃y,r[i]? = some y∧f x=some y
 | [],r,h=>by simp only[aM,zbg] at h;grind
 | x :: l, r, h => by
   simp only[aM] at h;cases d:f x with
   | none=>grind
   | some y =>
     rw[d] at h;dsimp only at h;cases c:aM f l with
     | none=>grind
     | some e =>
       rw[c] at h;simp only[zbg] at h;subst h;obtain⟨g,j⟩:=sj c
       grind
def gl (f:AV->Option AV)(p:Int×AV):Option (Int×AV):=match f p.2 with
 | some y=>some (p.1,y)
 | none=>none
theorem IH {f:AV->Option AV}:∀{l r:List (Int×AV)},aM (gl f) l=some r->
 (∀k y,(k,y)∈r->∃x,(k,x)∈l∧f x=some y)∧∀k x,(k,x)∈l->∃y,(k,y)∈r
 | [],r,h=>by simp only[aM,zbg] at h;grind
 | (a, z) :: l, r, h => by
   simp only[aM,gl] at h;cases d:f z with
   | none=>grind
   | some y =>
     rw[d] at h;dsimp only at h;cases c:aM (gl f) l with
     | none=>grind
     | some e =>
       rw[c] at h
       simp_all
       subst h;obtain⟨g,i⟩:=IH c
       grind
theorem IG {f:AV->Option AV}:∀{l r:List (Int×AV)},aM (gl f) l=some r->r.map (·.1)=l.map (·.1)
 | [],r,h=>by simp only[aM] at h;grind
 | (a, z) :: l, r, h => by
   simp[aM,gl] at h;cases d:f z with
   | none=>grind
   | some y =>
     cases c:aM (gl f) l with
     | none=>grind
     | some e =>
       simp_all
       subst h;simp[zcq,IG c]
def snap (H:aj):Nat->AV->Option AV
 | 0,_=>none
 | n + 1, v => match v with
   | .ptr k i j => match H.get k with
     | some (.arr _ d) => match d[i]? with
       | some e => match aM (snap H n) (e.drop j) with
         | some b=>some (.bm b)
         | none=>none
       | none=>none
     | _=>none
   | .ay k i g o => match H.get k with
     | some (.arr l d) => match o == l && ble (i + g) d.length with
       | true => match aM (aM (snap H n)) ((d.drop i).take g) with
         | some c=>some (.ak o c)
         | none=>none
       | false=>none
     | _=>none
   | .fZ _=>none
   | .cX k => match H.get k with
     | some (.mp d) => match aM (gl (snap H n)) d with
       | some c=>some (.cK c)
       | none=>none
     | _=>none
   | .fn f m h => match aM (snap H n) m, aM (snap H n) h with
     | some m,some h=>some (.fn f m h)
     | _,_=>none
   | .cG t v => match snap H n v with
     | some v=>some (.cG t v)
     | none=>none
   | .agg b => match aM (snap H n) b with
     | some b=>some (.agg b)
     | none=>none
   | .ao b => match aM (snap H n) b with
     | some b=>some (.ao b)
     | none=>none
   | v=>some v
section
variable {P:Program} {E:Env} {G:eZ} {c:Ctx} {w:World} {H:aj}
theorem nI {f:AV->Option AV}{c':Ctx}{xs ys:List AV}{vs:List Value}(d:aM f xs=some ys)(a:aP c w xs vs)(g:∀x v y,Rel c w x v->f x=some y->Rel c' w y v):aP c' w ys vs:=by
 obtain⟨h,j⟩:=sj d;refine⟨by rw[h];exact a.1,fun i y v e l=>?_⟩
 have m:i<xs.length:=by grind
 obtain⟨n,k,b⟩:=j i xs[i] (ag);rw[e] at *;cases k;exact g _ v y (a.2 i _ v (ag) l) b
theorem ks (hw:aN G c w H){I:Nat->Prop}(V:∀b,c.aq b->I b)(hO:∀b,Own c H b->I b):∀(n:Nat) {x y:AV} {v:Value},Rel c w x v->snap H n x=some y->Rel ⟨fun _=>none,I⟩ w y v
 | 0,x,y,v,_,h=>by simp[snap] at h
 | n + 1, x, y, v, J, h => by
   have T:∀x v y,Rel c w x v->snap H n x=some y->Rel ⟨fun _=>none,I⟩ w y v:=fun x v y a b=>ks hw V hO n a b
   have hbare:c.bare.le ⟨fun _=>none,I⟩:=⟨fun _ _ h=>(by cases h),V⟩
   have triv:∀{z u},Rel c.bare w z u->Rel ⟨fun _=>none,I⟩ w z u:=fun h=>h.mono hbare (fun _ _=>rfl)
   cases J with
   | @ptr _ _ k i Y B C =>
     simp only[snap] at h;cases D:H.get k with
     | none=>grind
     | some o =>
       cases o with
       | dJ _ _=>grind
       | lp _ _ _ _ _=>grind
       | mp _=>grind
       | cm _ _=>grind
       | arr sz Q =>
         rw[D] at h;dsimp only at h;cases g:Q[i]? with
         | none=>grind
         | some e =>
           rw[g] at h;dsimp only at h;cases d:aM (snap H n) (e.drop Y) with
           | none=>grind
           | some cs =>
             rw[d] at h;simp only[zbg] at h;subst h;have hBsz:=(hw.sz D C).1;obtain ⟨us, N, F⟩ := Bz (c := c) (w := w) (L := e.drop Y) (a := ⟨B.b, B.s + (i * B.sz + Y), none⟩) (fun p x S=>by
              rw[zcF] at S;obtain⟨v,v1,_,v2⟩:=hw.cell D C g S;refine⟨v,?_,v2⟩;rw[add_plain,<-v1,hBsz]
              grind)
             have h3:=nI d N T;exact Rel.bm (hO _ ⟨k,_,B,D,C,rfl⟩) h3.1 F h3.2
   | @ay _ _ k i m sz cap B a C hs X U =>
     simp only[snap] at h;cases D:H.get k with
     | none=>grind
     | some o =>
       cases o with
       | dJ _ _=>grind
       | lp _ _ _ _ _=>grind
       | mp _=>grind
       | cm _ _=>grind
       | arr sz' Q =>
         rw[D] at h;dsimp only at h;cases hq:(sz == sz' && ble (i+m) Q.length) with
         | false=>grind
         | true =>
           rw[hq] at h;dsimp only at h;simp only[zbe,zb1] at hq;obtain⟨hq1,hq2⟩:=hq;have hq2:=zbb hq2;subst hq1;cases d:aM (aM (snap H n)) ((Q.drop i).take m) with
           | none=>grind
           | some r =>
             rw[d] at h;simp only[zbg] at h;subst h;obtain⟨m1,m2⟩:=sj d;have hlen':((Q.drop i).take m).length=m:=by simp;omega
             have hesl:r.length=m:=aa;have K:∀(j:Nat) A,r[j]? = some A->∃e,Q[i+j]? = some e∧aM (snap H n) e=some A:=by
              intro j A g;have W:j<((Q.drop i).take m).length:=by have:=(zbn.1 g).1;omega
              obtain⟨y',e1,Z⟩:=m2 j _ (zbf W);rw[g] at e1;cases e1;exact⟨_,(sX i m j _ (zbf W)).1,Z⟩
             have hsz:=(hw.sz D C).2.2;have M:∀(j q:Nat),∃v,∀A x,r[j]? = some A->A[q]? = some x->w.cell? (a.add (j * sz+q))=some v∧Rel ⟨fun _=>none,I⟩ w x v:=by
              intro j q;cases g:r[j]? with
              | none=>simp
              | some A =>
                cases S:A[q]? with
                | none=>exact⟨undef,fun e'' x N F=>by grind⟩
                | some x' =>
                  obtain⟨e,e1,Z⟩:=K j A g;obtain⟨g1,g2⟩:=sj Z;have hql:q<e.length:=by have:=(zbn.1 S).1;omega
                  obtain⟨y',y1,y2⟩:=g2 q _ (zbf hql);rw[S] at y1;cases y1;obtain⟨v,v1,_,v2⟩:=hw.cell D C e1 (zbf hql);have W:j<m:=by have:=(zbn.1 g).1;omega
                  obtain⟨ha,_⟩:=U aa;refine⟨v,fun e'' x N F=>?_⟩
                  cases N;rw[S] at F;cases F;refine⟨?_,T _ v _ v2 y2⟩;rw[ha,add_plain,<-v1]
                  grind
             have := Rel.ak (c := ⟨fun _ => none, I⟩) (w := w) (sz := sz) (es := r) (cap := cap) (a := a) (fun j q => (M j q).choose) aa ?_ (fun j A g=>by
              obtain⟨e,e1,Z⟩:=K j A g;rw [(sj Z).1]; grind) (fun j q W hq=>by
              have g:=zbf W;obtain⟨e,e1,Z⟩:=K j _ g;have R:=(sj Z).1;rw[hsz _ e e1] at R;exact((M j q).choose_spec _ _ g (zbf aa)).1) (fun j q A x g S=>((M j q).choose_spec A x g S).2)
             . grind
             . intro hpos
               obtain⟨ha,_⟩:=U aa;rw[ha];exact hO _ ⟨k,_,B,D,C,rfl⟩
   | fZ C=>simp[snap] at h
   | @cX _ _ k B C =>
     simp only[snap] at h;cases D:H.get k with
     | none=>grind
     | some o =>
       cases o with
       | dJ _ _=>grind
       | lp _ _ _ _ _=>grind
       | arr _ _=>grind
       | cm _ _=>grind
       | mp Q =>
         rw[D] at h;dsimp only at h;cases d:aM (gl (snap H n)) Q with
         | none=>grind
         | some r =>
           rw[d] at h;simp only[zbg] at h;subst h;obtain⟨B',hB',hBi,_,mes,clock,O,a2,a3,f,a4,a5,a6⟩:=hw.obj k _ D;rw[C] at hB';cases hB';have K:=IH d;have hkeys:r.map (·.1)=Q.map (·.1):=IG d;refine .cK f (hO _ ⟨k,_,B,D,C,rfl⟩) O a2 (by unfold cu at a3 ⊢;grind) (fun j y W=>?_) (fun e g=>?_) (fun j y W=>?_)
           . grind
           . grind
           . obtain ⟨x, N, F⟩ := K.1 j y W
             exact T x _ y (a6 j x N) F
   | @fn _ _ f xs ys vs us N F hr1 hr2 =>
     simp only[snap] at h;cases hm1:aM (snap H n) xs with
     | none=>grind
     | some xs' =>
       cases hm2:aM (snap H n) ys with
       | none=>grind
       | some ys' =>
         rw[hm1,hm2] at h;simp only[zbg] at h;subst h;have O:=nI hm1 ⟨N,hr1⟩ T;have a2:=nI hm2 ⟨F,hr2⟩ T;exact Rel.fn f O.1 a2.1 O.2 a2.2
   | @cG _ _ t y u hy =>
     simp only[snap] at h;cases d:snap H n y with
     | none=>grind
     | some z =>
       rw[d] at h;simp only[zbg] at h;subst h;exact .cG t (T _ _ _ hy d)
   | @agg _ _ cs vs R J =>
     simp only[snap] at h;cases d:aM (snap H n) cs with
     | none=>grind
     | some cs' =>
       rw[d] at h;simp only[zbg] at h;subst h;have O:=nI d ⟨R,J⟩ T;exact Rel.agg O.1 O.2
   | @ao _ _ cs vs R J =>
     simp only[snap] at h;cases d:aM (snap H n) cs with
     | none=>grind
     | some cs' =>
       rw[d] at h;simp only[zbg] at h;subst h;have O:=nI d ⟨R,J⟩ T;exact Rel.ao O.1 O.2
   | any v=>simp only[snap,zbg] at h;subst h;exact .any v
   | bool b=>simp only[snap,zbg] at h;subst h;exact .bool b
   | int k b=>simp only[snap,zbg] at h;subst h;exact .int k b
   | str l=>simp only[snap,zbg] at h;subst h;exact .str l
   | dI=>simp only[snap,zbg] at h;subst h;exact .dI
   | bm hi R hc J=>simp only[snap,zbg] at h;subst h;exact .bm (V _ hi) R hc (fun i x v e A=>(J i x v e A).mono ⟨fun _ _ h=>(by cases h),V⟩ (fun _ _=>rfl))
   | ai=>simp only[snap,zbg] at h;subst h;exact .ai
   | cW a=>simp only[snap,zbg] at h;subst h;exact .cW a
   | ak vs X hi R hc J=>simp only[snap,zbg] at h;subst h;exact .ak vs X (fun h=>V _ (hi h)) R hc (fun i j e x N F=>(J i j e x N F).mono ⟨fun _ _ h=>(by cases h),V⟩ (fun _ _=>rfl))
   | fh sz=>simp only[snap,zbg] at h;subst h;exact .fh sz
   | iA=>simp only[snap,zbg] at h;subst h;exact .iA
   | fS=>simp only[snap,zbg] at h;subst h;exact .fS
   | cK f hi d hb hs C g J=>simp only[snap,zbg] at h;subst h;exact .cK f (V _ hi) d hb hs C g (fun k x e=>(J k x e).mono ⟨fun _ _ h=>(by cases h),V⟩ (fun _ _=>rfl))
   | cY=>simp only[snap,zbg] at h;subst h;exact .cY
   | eI=>simp only[snap,zbg] at h;subst h;exact .eI
end
end Go.Ago
end
section
namespace Go.Ago
open List Nat
def qh:List AV->Nat->Tr AV->Tr AV
 | [],_,t=>t
 | x::l,i,t=>qh l (i+1) (t.set 24 i (some x))
def St.init (args:List AV)(n:Nat)(H:aj)(nx:Nat):St:={ bu:=qh args 0 .nil,bL:=args.length+(n - args.length),heap:=H,next:=nx }
def oU (E:Env)(S:St):ResultVar->Option AV
 | .tmp t => some (match S.bu.get t with
   | some x=>x
   | none => .any)
 | .cell a t => match S.bu.get a with
   | some p => match (yR E t p).run S.heap with
     | some (.inl ⟨v,[]⟩)=>some v
     | _=>none
   | none=>none
def ig (E:Env)(a:Func)(S:St):Option AV:=
 match aM (oU E S) a.results.toList with
 | some [x]=>some x
 | some l=>some (.ao l)
 | none=>none
def ji (E:Env)(a:Func)(Q:AE->Prop):AX->St->Prop
 | .normal, S | .ret, S => match ig E a S with
   | some x => match snap S.heap 20 x with
     | some y=>Q (.ret y)
     | none=>False
   | none=>False
 | .aU v, S => match snap S.heap 20 v with
   | some y=>Q (.aU y)
   | none=>False
 | _,_=>False
def sN (E:Env)(a:Func)(R:AE->aj->Nat->Prop):AX->St->Prop
 | .normal, S | .ret, S => match ig E a S with
   | some x=>R (.ret x) S.heap S.next
   | none=>False
 | .aU v,S=>R (.aU v) S.heap S.next
 | _,_=>False
section
variable {P:Program} {E:Env} {c:Ctx} {S:St} {a:Act} {w:World} {H:aj}
theorem Hq:∀(l:List AV) (i:Nat) (t:Tr AV) (j:Nat),i+l.length<2 ^ 20->(qh l i t).get j=if i≤j∧j<i+l.length then l[j - i]? else t.get j
 | [],i,t,j,_=>by simp only[qh];grind
 | x :: l, i, t, j, h => by
   simp_all
   simp only[qh];rw[Hq l _ _ j aa,Tr.eQ 24 i _ _ j aa]
   grind
theorem c9.init {args:List AV}{vs:List Value}{n nx:Nat}(d:aP c w args vs)(j:aN E.bS c w H)(h:∀k,nx≤k->c.f k=none)(l:args.length<2 ^ 20) :
 c9 P E c (St.init args n H nx) { tmps:=vs.toArray++Array.replicate (n - vs.toArray.size) undef,defers:=[] } w:=by
 refine⟨by simp[St.init,d.1],fun t x e=>?_,trivial,j,h⟩
 simp only[St.init] at e;rw[Hq args 0 .nil t aa] at e
 by_cases b:0≤t∧t<0+args.length
 . rw [if_pos b] at e
   obtain⟨v,m,g⟩:=d.get (i:=t) (by simpa using e)
   grind
 . rw[if_neg b] at e;cases e
def yB (b:Array Value):ResultVar->Sem Value
 | .tmp t=>pure (b.getD t undef)
 | .cell a t=>do loadVar t (<-asAddr (b.getD a undef))
theorem XU (l:bZ P E)(j:c9 P E c S a w){r:ResultVar}{x:AV}(h:oU E S r=some x) :
 ∃v,(yB a.tmps r).run P w = .ok v w∧Rel c w x v:=by
 cases r with
 | tmp t =>
   simp only[oU,zbg] at h;subst h;exact⟨_,rfl,j.ev (.tmp t)⟩
 | cell g t =>
   simp only[oU] at h;cases e:S.bu.get g with
   | none=>grind
   | some p =>
     rw[e] at h;dsimp only at h;obtain⟨u,n,d⟩:=j.bu g p e;have m:a.tmps.getD g undef=u:=by simp[zcj,n]
     split at h
     . rename_i v b
       simp only[zbg] at h;subst h;obtain⟨y,o,q,A,s⟩:=IA l j.bC d b;cases q;have i:∃f,u = .pointer (some f):=by
        cases d<;>first|exact⟨_,rfl⟩|exact(aF b).elim
       obtain⟨f,rfl⟩:=i;refine⟨o,?_,s⟩;simp only[yB,m]
       assumption
     grind
theorem IC (e:bZ P E)(f:c9 P E c S a w):∀(l:List ResultVar) (xs:List AV),aM (oU E S) l=some xs->
 ∃vs,(l.mapM (yB a.tmps)).run P w = .ok vs w∧aP c w xs vs
 | [],xs,h=>by simp[aM,zbg] at h;subst h;exact⟨[],rfl,.nil⟩
 | r :: l, xs, h => by
   simp[aM] at h;cases g:oU E S r with
   | none=>grind
   | some x =>
     cases k:aM (oU E S) l with
     | none=>grind
     | some m =>
       simp_all
       subst h;obtain⟨v,n,i⟩:=XU e f g;obtain⟨vs,j,d⟩:=IC e f l _ k;refine⟨v::vs,?_,.cons i d⟩
       simp_all
theorem yA (m:bZ P E)(o:c9 P E c S a w){e:Func}{x:AV}(h:ig E e S=some x):∃v,(results e a.tmps).run P w = .ok v w∧Rel c w x v:=by
 unfold ig at h;cases k:aM (oU E S) e.results.toList with
 | none=>grind
 | some n =>
   rw[k] at h;obtain⟨d,l,b⟩:=IC m o _ _ k;have f:(results e a.tmps).run P w = .ok (if h:d.toArray.size=1 then d.toArray[0] else .tuple d.toArray) w:=by
    have g : results e a.tmps = (do
     let d <-e.results.mapM (yB a.tmps)
     pure (if h:d.size=1 then d[0] else .tuple d)):=rfl
    rw[g,Sem.run_bind,Array.mapM_eq_mapM_toList];simp only[Sem.run_map,l,Result.andThen_ok];rfl
   rw[f];refine⟨_,rfl,?_⟩
   match n,h,b with
   | [y], h, b =>
     simp only[zbg] at h;subst h;obtain⟨v,r,rfl,q,i⟩:=b.dP;obtain rfl:=i.fX;exact q
   | [], h, b =>
     simp only[zbg] at h;subst h;obtain rfl:=b.fX;exact Rel.ao b.1 b.2
   | y :: z :: s, h, b =>
     simp only[zbg] at h;subst h;have p:d.toArray.size≠1:=by have:=b.1;simp at this ⊢;omega
     rw[dif_neg p];exact Rel.ao b.1 b.2
theorem iN.mem {hi D:Nat}:∀{hi:Nat} {f:List Deferred},iN c w hi f->({ target := .collected D,args:=#[] }:Deferred)∈f->¬c.aq D∧w.heap[D]? = some (.deferred (some []))
 | _, d :: f, ⟨h, l, i, j, k, g⟩, b => by
   rcases zbB.1 b with e|b
   . grind
   exact iN.mem (hi:=hi) g b
theorem qj {F:Fence}{n:Nat}{j:Func}{f:Array Value}{R:Ending->World->Prop}{u:FrameMode}(m:u≠.run):∀{i:List Deferred} {hi:Nat} {w:World},iN c w hi i->
 (∀w':World,w'.heap.size=w.heap.size->w'.os=w.os->w'.tape=w.tape->w'.output=w.output->(∀b,(∀D,({ target := .collected D,args:=#[] }:Deferred)∈i->b≠D)->w'.heap[b]? = w.heap[b]?)->LeavesIn F n P j f R [] u w')->
 LeavesInM F n P j f R i u w
 | [],_,w,_,h=>h w rfl rfl rfl rfl (fun _ _=>rfl)
 | d :: i, _, w, ⟨D, o, A, B, v, p⟩, h => by
   refine⟨m,.inl ⟨D,w.putObj D (.deferred none),by rw[o],run_takeDeferred v,qj m (hi:=D) ?_ fun w' z s t x r=>h w' ?_ s t x fun b l=>?_⟩⟩
   . exact p.mono (zbm _) fun k g y q=>⟨y,(World.putObj_heap_other aa).trans q⟩
   . simp_all
   . rw [r b fun k g => l k (zbO _ g)]
     exact World.putObj_heap_other (l D bj)
theorem c9.shut (h:c9 P E c S a w){w':World}(n:w'.heap.size=w.heap.size)(i:∀b,(∀D,({ target := .collected D,args:=#[] }:Deferred)∈a.defers->b≠D)->w'.heap[b]? = w.heap[b]?) :
 c9 P E c S { a with defers:=[] } w'∧∀{x v},Rel c w x v->Rel c w' x v:=by
 have f:=fun b j=>i b fun D m e=>(h.defers.mem (hi:=0) m).1 (e ▸ j)
 have d:∀{x v},Rel c w x v->Rel c _ x v:=fun q=>q.mono (.refl c) f
 refine⟨⟨h.size,fun t x e=>by obtain⟨v,l,p⟩:=h.bu t x e;grind,trivial,⟨fun b j=>by rw[n];exact h.bC.bN b j,fun k B e=>by rw[n];exact h.bC.bW k B e,fun k o e=>?_,h.bC.inj,fun g u e=>d (h.bC.bS g _ e)⟩,h.fresh⟩,d⟩
 obtain⟨B,l,p,s⟩:=h.bC.obj k o e;exact⟨B,l,p,s.mono (i _ fun D m r=>h.bC.xN (h.defers.mem (hi:=0) m).2 ⟨k,o,B,e,l,r⟩) d (fun b i=>⟨i,f b i⟩)⟩
theorem ExtM.shut {m:Nat}{c':Ctx}{w' d:World}{H':aj}{i:Act}{r:Array Value}(h:ExtM m c w H c' w' H')(k:Gd w { tmps:=r,defers:=[] } i)(l:d.heap.size=w'.heap.size)(n:d.os=w'.os)(o:d.tape=w'.tape)(j:d.output=w'.output)
 (q:∀b,(∀D,({ target := .collected D,args:=#[] }:Deferred)∈i.defers->b≠D)->d.heap[b]? = w'.heap[b]?):ExtM m c w H c' d H':=by
 refine⟨h.f,h.aq,n.trans h.os,o.trans h.tape,j.trans h.output,by rw[l];exact h.size,fun b g p=>(q b fun D t e=>?_).trans (h.other b g p),h.ez,h.own⟩
 obtain⟨u,v,s⟩:=k
 grind
theorem PC.CT {f:FuncId}{K:Func}{code:Code}{args:List AV}{Q:AE->Prop}(hE:bZ P E)(hf:P.funcs[f]? = some K)(d:K.body=some code)(hn:K.name ≠ "runtime.NumGoroutine")
 (hl:args.length<2 ^ 20)(h:SW P E false code (ji E K Q) (St.init args K.ntmps .nil 0)):PC P E f args Q:=by
 refine⟨⟨K,hf,by grind,hn⟩,fun c w vs hc hw hr=>?_⟩
 refine callsIn_wide.1 (callsIn_of_wp_marks (F:=Fence.wide) (n:=0) hf d trivial (wpIn_mono (h none (fun _=>rfl) 0 (zbm _) c _ w (c9.init hr hw (fun k _=>hc k) hl)) ?_))
 rintro e a' w1 ⟨A,J,ax,j,h2,z,O,u⟩
 have N:=j.gd
 replace j:=j.toExtM
 have l:∀b,¬Own c (.nil:aj) b:=by rintro b ⟨k,o,B,Z,_⟩;cases Z
 
 let I:Nat->Prop:=fun b=>A.aq b∨Own A J.heap b
 have C:∀s,ExtM 0 c w .nil A s J.heap->aN E.bS A s J.heap->∀x v,Rel A s x v->∀y,snap J.heap 20 x=some y->Ext c w .nil ⟨fun _=>none,I⟩ s .nil∧aN E.bS ⟨fun _=>none,I⟩ s .nil∧Rel ⟨fun _=>none,I⟩ s y v:=by
  intro s j D x v hr y hy;have hown:∀b,Own A J.heap b->w.heap.size≤b:=fun b d=>(j.own b d).resolve_left (l b)
  refine⟨⟨⟨fun k p e=>bj,fun b d => .inl (j.aq b d)⟩,j.os,j.tape,j.output,j.size,fun b d _=>j.other b d (l b),fun b d=>?_,fun b d=>(l b (by obtain⟨k,o,B,Z,_⟩:=d;cases Z)).elim⟩,?_,ks D (fun b d => .inl d) (fun b d => .inr d) 20 hr hy⟩
  . rcases d with d | d
    . rcases j.ez b d with g | g | g
      . grind
      . grind
      omega
    grind
  . refine ⟨fun b d => ?_, fun k B e => (by cases e), fun k o e => (by cases e), fun k k' o o' B B' e => (by cases e), fun g cs e => ?_⟩
    . rcases d with d | ⟨k, o, B, Z, hf', rfl⟩
      . exact D.bN b d
      . exact D.bW k B hf'
    . have := D.bS g cs e
      exact ks D (I:=I) (fun b d => .inl d) (fun b d => .inr d) 1 this rfl
 cases ax with
 | normal =>
   cases e<;>first|exact O.elim|skip
   simp only[ji] at u;cases m:ig E K J with
   | none=>grind
   | some x =>
     rw[m] at u;dsimp only at u;cases r:snap J.heap 20 x with
     | none=>grind
     | some y =>
       rw[r] at u;refine qj ag z.defers fun s M R V T L=>?_
       replace j:=j.shut N M R V T L
       have q:=z.shut M L;have t:∀{x v},Rel A w1 x v->Rel A s x v:=q.2
       replace z:=q.1
       obtain⟨v,hv,G⟩:=yA hE z m;obtain⟨U,W,X⟩:=C s j z.bC x v G y r;exact⟨v,hv,_,.ret y,U,fun _=>rfl,W,X,u⟩
 | ret =>
   cases e<;>first|exact O.elim|skip
   simp only[ji] at u;cases m:ig E K J with
   | none=>grind
   | some x =>
     rw[m] at u;dsimp only at u;cases r:snap J.heap 20 x with
     | none=>grind
     | some y =>
       rw[r] at u;refine qj ag z.defers fun s M R V T L=>?_
       replace j:=j.shut N M R V T L
       have q:=z.shut M L;have t:∀{x v},Rel A w1 x v->Rel A s x v:=q.2
       replace z:=q.1
       obtain⟨v,hv,G⟩:=yA hE z m;obtain⟨U,W,X⟩:=C s j z.bC x v G y r;exact⟨v,hv,_,.ret y,U,fun _=>rfl,W,X,u⟩
 | aU x =>
   cases e<;>first|exact O.elim|skip
   obtain⟨v,rfl,G⟩:=O;simp only[ji] at u;cases r:snap J.heap 20 x with
   | none=>grind
   | some y =>
     rw[r] at u;refine qj ag z.defers fun s M R V T L=>?_
     replace j:=j.shut N M R V T L
     have q:=z.shut M L;have t:∀{x v},Rel A w1 x v->Rel A s x v:=q.2
     replace z:=q.1
     obtain⟨U,W,X⟩:=C s j z.bC x v (t G) y r;exact⟨_,.aU y,U,fun _=>rfl,W,⟨v,rfl,X⟩,u⟩
 | exit i=>cases e<;>first|exact O.elim|exact u.elim
 | goto i=>cases e<;>first|exact O.elim|exact u.elim
theorem AC.CT {f:FuncId}{p:Func}{code:Code}{args:List AV}{nx:Nat}{R:AE->aj->Nat->Prop}(K:bZ P E)(J:P.funcs[f]? = some p)(W:p.body=some code)(O:p.name ≠ "runtime.NumGoroutine")
 (Q:args.length<2 ^ 20)(h:SW P E false code (sN E p R) (St.init args p.ntmps H nx)):AC P E f args H nx R:=by
 refine⟨⟨p,J,by grind,O⟩,fun c w Z N U T=>?_⟩
 refine callsIn_wide.1 (callsIn_of_wp_marks (F:=Fence.wide) (n:=0) J W trivial (wpIn_mono (h none (fun _=>rfl) nx (zbm _) c _ w (c9.init T N U Q)) ?_))
 rintro e a' I ⟨o,r,X,k,D,d,u,m⟩
 have t:=k.gd
 replace k:=k.toExtM
 cases X with
 | normal =>
   cases e<;>first|exact u.elim|skip
   simp only[sN] at m;cases g:ig E p r with
   | none=>grind
   | some x =>
     rw[g] at m;refine qj ag d.defers fun z s B y A q=>?_
     replace k:=k.shut t s B y A q
     have b:=d.shut s q;have j:∀{x v},Rel o I x v->Rel o z x v:=b.2
     replace d:=b.1
     obtain⟨v,G,l⟩:=yA K d g;exact⟨v,G,o,r.heap,r.next,.ret x,k,d.bC,D,d.fresh,l,m⟩
 | ret =>
   cases e<;>first|exact u.elim|skip
   simp only[sN] at m;cases g:ig E p r with
   | none=>grind
   | some x =>
     rw[g] at m;refine qj ag d.defers fun z s B y A q=>?_
     replace k:=k.shut t s B y A q
     have b:=d.shut s q;have j:∀{x v},Rel o I x v->Rel o z x v:=b.2
     replace d:=b.1
     obtain⟨v,G,l⟩:=yA K d g;exact⟨v,G,o,r.heap,r.next,.ret x,k,d.bC,D,d.fresh,l,m⟩
 | aU x =>
   cases e<;>first|exact u.elim|skip
   obtain⟨v,rfl,l⟩:=u;refine qj ag d.defers fun z s B y A q=>?_
   replace k:=k.shut t s B y A q
   have b:=d.shut s q;have j:∀{x v},Rel o I x v->Rel o z x v:=b.2
   replace d:=b.1
   exact⟨o,r.heap,r.next,.aU x,k,d.bC,D,d.fresh,⟨v,rfl,j l⟩,m⟩
 | exit i=>cases e<;>first|exact u.elim|exact m.elim
 | goto i=>cases e<;>first|exact u.elim|exact m.elim
end
end Go.Ago
end
section
namespace Go.Ago
open List Nat
def nf:AV->Bool
 | .any | .bool _ | .int _ _ | .str _ | .dI | .ai | .cW | .fS | .cY | .eI=>true
 | _=>false
def l9:AV->Bool
 | .agg a=>a.all nf
 | .cG _ v=>nf v
 | v=>nf v
def hU:AV->Bool
 | .ak _ _ | .bm _ | .cK _=>true
 | v=>l9 v
def AV.flat:AV->Bool
 | .ao a=>a.all l9
 | v=>l9 v
def AE.flat:AE->Bool
 | .ret v | .aU v=>v.flat
section
variable {P:Program} {E:Env} {G:eZ} {c c':Ctx} {w w':World} {H:aj}
theorem G1 {x:AV}{v:Value}(h:Rel c w x v)(a:nf x=true):Rel c' w' x v:=by
 cases h<;>simp[nf] at *<;>constructor
theorem G2 {f:AV->Bool}{xs:List AV}{vs:List Value}(b:∀x v,Rel c w x v->f x=true->Rel c' w' x v)(h:aP c w xs vs)(d:xs.all f=true):aP c' w' xs vs:=
 ⟨h.1,fun i x v e a=>b x v (h.2 i x v e a) (zbr.1 d x (zby e))⟩
theorem Bw {x:AV}{v:Value}(h:Rel c w x v)(e:l9 x=true):Rel c' w' x v:=by
 cases h with
 | @agg _ _ C D y z =>
   have:=G2 (c':=c') (w':=w') (fun _ _=>G1) ⟨y,z⟩ e
   exact .agg this.1 this.2
 | cG t A=>exact .cG t (G1 A e)
 | any v=>exact .any v
 | bool b=>exact .bool b
 | int k n=>exact .int k n
 | str l=>exact .str l
 | dI=>exact .dI
 | ai=>exact .ai
 | cW a=>exact .cW a
 | iA=>exact .iA
 | fS=>exact .fS
 | cY=>exact .cY
 | eI=>exact .eI
 | _=>simp[l9,nf] at e
theorem w6 {x:AV}{v:Value}(hi:c'.aq=c.aq)(h:Rel c w x v)(B:hU x=true):Rel c' w x v:=by
 have A:c'.bare=c.bare:=by unfold Ctx.bare;rw[hi]
 by_cases l:(∃s a,x = .ak s a)∨(∃n,x = .bm n)∨∃a,x = .cK a
 . rcases l with ⟨s, a, rfl⟩ | ⟨n, rfl⟩ | ⟨a, rfl⟩
   . cases h with
     | ak u m d b g o=>exact .ak u m bj b g (fun i j e x D F=>by grind)
     | fh=>exact .fh s
   . cases h with
     | bm m d b g=>exact .bm bj d b (fun i x v e C=>by grind)
   . cases h with
     | cK f m d b g o y z=>exact .cK f bj d b g o y (fun k x e=>by grind)
 . have : hU x = l9 x := by cases x <;> first | rfl | exact absurd (.inl ⟨_, _, rfl⟩) l | exact absurd (.inr (.inl ⟨_, rfl⟩)) l | grind
   exact Bw h bj
theorem G3 {x:AV}{v:Value}(h:Rel c w x v)(d:x.flat=true):Rel c' w' x v:=by
 by_cases e:∃b,x = .ao b
 . obtain ⟨b, rfl⟩ := e
   cases h with
   | @ao _ _ _ j g i =>
     have:=G2 (c':=c') (w':=w') (fun _ _=>Bw) ⟨g,i⟩ d
     exact .ao this.1 this.2
 . have : x.flat = l9 x := by cases x <;> first | rfl | grind
   exact Bw h bj
theorem w8 {a:AE}{e:Ending}(h:lT c w a e)(b:a.flat=true):lT c' w' a e:=by
 cases a with
 | ret x=>cases e<;>first|exact h.elim|exact G3 h b
 | aU x =>
   cases e<;>first|exact h.elim|skip
   obtain⟨v,i,d⟩:=h;exact⟨v,i,G3 d b⟩
theorem aN.same (h:aN G c w H){I:Nat->Prop}(l:∀b,c.aq b->I b)(d:∀b,I b->b<w'.heap.size)(i:∀b,b<w.heap.size->I b->c.aq b)(n:w.heap.size≤w'.heap.size)(j:∀b,b<w.heap.size->w'.heap[b]? = w.heap[b]?) :
 aN G ⟨c.f,I⟩ w' H∧∀{x v},Rel c w x v->Rel ⟨c.f,I⟩ w' x v:=by
 have a:∀{x v},Rel c w x v->Rel ⟨c.f,I⟩ _ x v:=fun p=>p.mono ⟨fun _ _ e=>e,l⟩ (fun b e=>j b (h.bN b e))
 refine⟨⟨d,fun k B e=>zbJ (h.bW k B e) n,fun k o e=>?_,h.inj,fun g t e=>a (h.bS g _ e)⟩,a⟩
 obtain⟨B,m,q,s⟩:=h.obj k o e;have d:=h.bW k B m;exact⟨B,m,fun r=>q (i _ d r),s.mono (j _ d) a (fun b e=>⟨l b e,j b (h.bN b e)⟩)⟩
theorem lJ {b:Nat}:¬Own c (.nil:aj) b:=by rintro⟨k,o,B,a,_⟩;cases a
theorem aN.SR (h:aN G c w H):aN G ⟨fun _=>none,fun b=>c.aq b∨Own c H b⟩ w .nil:=by
 refine⟨fun b a=>?_,fun k B e=>(by cases e),fun k o e=>(by cases e),fun k f o i B j e=>(by cases e),fun g l e=>?_⟩
 . rcases a with a | ⟨k, o, B, m, d, rfl⟩
   . exact h.bN b a
   exact h.bW k B d
 exact ks h (fun b a => .inl a) (fun b a => .inr a) 1 (h.bS g _ e) rfl
theorem AC.flat {g:FuncId}{args args':List AV}{nx:Nat}{Q:AE->Prop}{R:AE->aj->Nat->Prop}(l:aM (snap H 20) args=some args')(h:PC P E g args' Q)(o:∀f,Q f->f.flat=true∧R f H nx) :
 AC P E g args H nx R:=by
 refine⟨h.1,fun c w u i p n=>?_⟩
 have j:=nI (c':=⟨fun _=>none,fun b=>c.aq b∨Own c H b⟩) l n (fun x v y=>ks i (fun b a => .inl a) (fun b a => .inr a) _)
 refine(h.2 _ w _ (ag) i.SR j).mono ?_
 rintro e z ⟨C,f,d,A,B,q,m⟩
 obtain⟨s,r⟩:=o _ m;have a:=fun b a=>d.other b a lJ
 obtain⟨t,D⟩:=i.same (ag) (fun b a=>zbJ (i.bN b a) d.size) (ag) d.size a
 exact⟨c,H,nx,f,⟨fun _ _=>rfl,fun _ h=>h,d.os,d.tape,d.output,d.size,fun b k _=>a b k,fun b a => .inl a,fun b a => .inl a⟩,t,zbm _,p,w8 q s,r⟩
theorem aN.empty (h:aN G c w H):aN G c.bare w .nil:=by
 refine⟨h.bN,fun k B e=>(by cases e),fun k o e=>(by cases e),fun k n o p B l e=>(by cases e),fun g m e=>?_⟩
 have:=h.bS g _ e;cases this with
 | bm i f j d=>exact .bm i f j d
theorem aN.CK (h:aN G c w H):aN G c w .nil:=
 ⟨h.bN,h.bW,fun k o e=>(by cases e),fun k b o d B a e=>(by cases e),h.bS⟩
theorem AC.pure {g:FuncId}{args args':List AV}{nx:Nat}{Q:AE->Prop}{R:AE->aj->Nat->Prop}(D:aM (snap .nil 20) args=some args')(h:PC P E g args' Q)(t:∀i,Q i->R i H nx) :
 AC P E g args H nx R:=by
 refine⟨h.1,fun c w K r z B=>?_⟩
 have o:=nI (c':=c.bare) D B (fun x v y=>ks r.CK (fun b a=>a) (fun b a=>(lJ a).elim) 20)
 refine(h.2 c.bare w K (fun _=>rfl) r.empty o).mono ?_
 rintro e L ⟨j,i,d,O,A,n,C⟩
 have a:=fun b a=>d.other b a lJ
 have l:∀b,j.aq b->c.aq b∨w.heap.size≤b:=fun b a=>by
  rcases d.ez b a with g|g|g
  . exact .inl g
  . exact(lJ g).elim
  omega
 obtain⟨F,S⟩:=r.same (I:=j.aq) (w':=L) (fun b a=>d.le.aq b a) (fun b a=>A.bN b a) (fun b a u=>(l b u).resolve_right aa) d.size a
 have m:j.le ⟨c.f,j.aq⟩:=⟨fun k p e=>bj,fun _ h=>h⟩
 refine⟨⟨c.f,j.aq⟩,H,nx,i,⟨fun _ _=>rfl,fun b a=>d.le.aq b a,d.os,d.tape,d.output,d.size,fun b q _=>a b q,fun b a=>?_,fun b a => .inl a⟩,F,zbm _,z,?_,t i C⟩
 . grind
 . cases i with
   | ret x=>cases e<;>first|exact n.elim|exact Rel.mono n m (fun _ _=>rfl)
   | aU x =>
     cases e<;>first|exact n.elim|skip
     obtain⟨v,N,s⟩:=n;exact⟨v,N,s.mono m (fun _ _=>rfl)⟩
variable {rr:Bool}
def Wk (P:Program)(E:Env)(S S':St):Prop:=
 ∀c a w,c9 P E c S a w->∃d,(∀k,k<S'.next->d.f k=c.f k)∧(∀b,c.aq b->d.aq b)∧(∀b,d.aq b->c.aq b∨Own c S.heap b)∧(∀b,Own d S'.heap b->Own c S.heap b)∧c9 P E d S' a w
theorem Wk.refl (S:St):Wk P E S S:=fun c a w h=>⟨c,fun _ _=>rfl,fun _ h=>h,fun _ h => .inl h,fun _ h=>h,h⟩
theorem SW.wk {code:Code}{K:AX->St->Prop}{S S':St}(i:Wk P E S S')(f:S.next≤S'.next)(h:SW P E rr code K S'):SW P E rr code K S:=by
 intro r j m l c a w n;obtain⟨I,p,q,s,t,u⟩:=i c a w n;refine wpIn_mono (h r j m (zbu l f) _ a w u) ?_
 rintro e J F ⟨y,o,z,g,x,v,C,B⟩
 have D:ExtM m c w _ _ w _:=⟨fun k L=>p k aa,q,rfl,rfl,rfl,zbm _,fun _ _ _=>rfl,fun b d=>(s b d).imp id .inl,fun b d => .inl (t b d)⟩
 exact⟨y,o,z,⟨D.trans g.toExtM,g.gd⟩,zbu f x,v,C,B⟩
theorem wpIn_loop_ghost {F:Fence}{n:Nat}{Q:Exit->Act->World->Prop}{a:Act}{w:World}{b:Code}(I:Nat->Act->World->Prop)(q:Nat)(h0:I q a w)
 (d:∀m a w,I m a w->b.wpIn F n P (Exit.then (fun p w'=>∃i,i<m∧I i p w') Q) a w):(Code.loop b).wpIn F n P Q a w:=by
 refine wpIn_loop (fun a w=>∃n,I n a w) (fun a w=>leastOf (fun n=>I n a w)) ⟨q,h0⟩ ?_
 intro a w s;refine wpIn_mono (d _ a w (leastOf_spec s).1) ?_;intro e p w' h;cases e with
 | normal =>
   obtain⟨i,k,f⟩:=h;exact⟨⟨i,f⟩,Nat.lt_of_le_of_lt ((leastOf_spec ⟨i,f⟩).2 _ f) k⟩
 | exit id=>exact h
 | goto l=>exact h
 | ret=>exact h
 | panic u=>exact h
 | outgrown=>exact h
theorem SW.loop {α:Type}(L:α->St)(A:α->Nat){o:Code}{K:AX->St->Prop}{S:St}(T:α)(h0:Wk P E S (L T))(J:∀x,S.next≤(L x).next)
 (h : ∀ x, SW P E rr o (fun e S'=>match e with
   | .normal=>∃B,Wk P E S' (L B)∧A B<A x
   | e=>K e S') (L x)):SW P E rr (.loop o) K S:=by
 intro r hr m hm c a w hs;have f:∀{s:Ctx} {C:St} {q:Act} {p:World} {x:α},ep m c a w S.heap s q p C.heap->c9 P E s C q p->Wk P E C (L x)->∃g,ep m c a w S.heap g q p (L x).heap∧c9 P E g (L x) q p:=by
  intro s C q p x N y O;obtain⟨g,I,M,e3,e4,Y⟩:=O s q p y;have Z:=J x;exact⟨g,N.jj ⟨fun k hk=>I k aa,M,rfl,rfl,rfl,zbm _,fun _ _ _=>rfl,fun b Q=>(e3 b Q).imp id .inl,fun b Q => .inl (e4 b Q)⟩ rfl,Y⟩
 refine wpIn_loop_ghost (fun n V R=>∃x g,A x=n∧ep m c a w S.heap g V R (L x).heap∧c9 P E g (L x) V R) (A T) ?_ ?_
 . obtain ⟨g, y, h2⟩ := f (ep.refl m c a w _) hs h0
   grind
 . rintro n q p ⟨x, s, rfl, N, y⟩
   refine wpIn_mono (h x r hr m (zbu hm (J x)) s q p y) ?_
   rintro e a2 w2 ⟨D,z,ax,g1,g2,u,j,t⟩
   have d:=N.trans g1;have l:=zbu (J x) g2;cases ax with
   | normal =>
     cases e<;>first|exact j.elim|skip
     obtain⟨B,k1,k2⟩:=t;obtain⟨g,I,M⟩:=f d u k1;exact⟨_,k2,B,g,rfl,I,M⟩
   | exit i=>cases e<;>first|exact j.elim|exact⟨D,z,_,d,l,u,j,t⟩
   | goto i=>cases e<;>first|exact j.elim|exact⟨D,z,_,d,l,u,j,t⟩
   | ret=>cases e<;>first|exact j.elim|exact⟨D,z,_,d,l,u,j,t⟩
   | aU v=>cases e<;>first|exact j.elim|exact⟨D,z,_,d,l,u,j,t⟩
end
end Go.Ago
end
namespace Go.Ago
open List Nat
def Rd.rds (H:aj):Rd->List Nat
 | .rd k f => match H.get k with
   | some o=>k::(f o).rds H
   | none=>[k]
 | .ca b r => match b with
   | true=>r.rds H
   | false=>[]
 | .br b r s => match b with
   | true=>r.rds H
   | false=>s.rds H
 | .opt o f => match o with
   | some e=>(f e).rds H
   | none=>[]
 | _=>[]
theorem Rd.sS {H H':aj}:∀{r:Rd},(∀k∈r.rds H,H'.get k=H.get k)->r.run H'=r.run H
 | .ret _,_=>rfl
 | .aU _,_=>rfl
 | .fail,_=>rfl
 | .rd k f, h => by
   simp[rds] at h;simp[run];cases e:H.get k with
   | none=>grind
   | some o =>
     rw[e] at h;rw[h k ag,e];exact sS fun j g=>h j bj
 | .ca b r, h => by
   cases b with
   | true=>exact sS (r:=r) h
   | false=>rfl
 | .br b r s, h => by
   cases b with
   | true=>exact sS (r:=r) h
   | false=>exact sS (r:=s) h
 | .opt o f, h => by
   cases o with
   | some e=>exact sS (r:=f e) h
   | none=>rfl
theorem Rd.sM {H H':aj}:∀{r:Rd},(∀k∈r.rds H,H'.get k=H.get k)->r.rds H'=r.rds H
 | .ret _,_=>rfl
 | .aU _,_=>rfl
 | .fail,_=>rfl
 | .rd k f, h => by
   simp[rds] at *;cases e:H.get k with
   | none=>grind
   | some o =>
     rw[e] at h;rw[h k ag,e]
     dsimp
     rw[sM fun j d=>h j bj]
 | .ca b r, h => by
   cases b with
   | true=>exact sM (r:=r) h
   | false=>rfl
 | .br b r s, h => by
   cases b with
   | true=>exact sM (r:=r) h
   | false=>exact sM (r:=s) h
 | .opt o f, h => by
   cases o with
   | some e=>exact sM (r:=f e) h
   | none=>rfl
def Rd.gP (H:aj)(K:bo->List Nat->Prop):Rd->List Nat->Prop
 | .ret e,l=>K e l
 | .aU _,_=>False
 | .rd k f, l => match H.get k with
   | some o=>(f o).gP H K (k::l)
   | none=>False
 | .ca b r,l=>b=true∧r.gP H K l
 | .br b r s,l=>(b=true->r.gP H K l)∧(b=false->s.gP H K l)
 | .opt o f,l=>∃e,o=some e∧(f e).gP H K l
 | .fail,_=>False
theorem Rd.rZ {H:aj}{K:bo->List Nat->Prop}:∀{r:Rd} {l:List Nat},r.gP H K l->∃e l',r.run H=some (.inl e)∧(∀k∈r.rds H,k∈l')∧(∀k∈l,k∈l')∧K e l'
 | .ret e,l,h=>⟨e,l,rfl,by simp[rds],fun _ h=>h,h⟩
 | .aU _,_,h=>h.elim
 | .rd k f, l, h => by
   simp[gP] at h;simp[run,rds];cases e:H.get k with
   | none=>grind
   | some o =>
     rw[e] at h;obtain⟨i,l',j,m,n,p⟩:=rZ h
     grind
 | .ca b r, l, h => by
   obtain⟨rfl,h⟩:=h;exact rZ (r:=r) h
 | .br b r s, l, h => by
   cases b with
   | true=>exact rZ (r:=r) (h.1 rfl)
   | false=>exact rZ (r:=s) (h.2 rfl)
 | .opt o f, l, h => by
   obtain⟨e,rfl,h⟩:=h;exact rZ (r:=f e) h
 | .fail,_,h=>h.elim
def cC (H:aj):Nat->AV->List Nat
 | 0,_=>[]
 | n + 1, v => match v with
   | .ptr k i d => k :: match H.get k with
     | some (.arr _ b) => match b[i]? with
       | some e=>(e.drop d).flatMap (cC H n)
       | none=>[]
     | _=>[]
   | .ay k i c _ => k :: match H.get k with
     | some (.arr _ b)=>((b.drop i).take c).flatMap fun e=>e.flatMap (cC H n)
     | _=>[]
   | .cX k => k :: match H.get k with
     | some (.mp b)=>b.flatMap fun p=>cC H n p.2
     | _=>[]
   | .fn _ g h=>g.flatMap (cC H n)++h.flatMap (cC H n)
   | .cG _ v=>cC H n v
   | .agg f | .ao f=>f.flatMap (cC H n)
   | _=>[]
theorem uT {α b:Type}{f g:α->Option b}:∀{l:List α},(∀x∈l,f x=g x)->aM f l=aM g l
 | [],_=>rfl
 | x :: l, h => by
   simp[aM];rw[h x ag,uT fun y c=>h y bj]
theorem Li {H H':aj}:∀(n:Nat) {x:AV},(∀k∈cC H n x,H'.get k=H.get k)->snap H' n x=snap H n x
 | 0,_,_=>rfl
 | n + 1, x, h => by
   have w:∀x,(∀k∈cC H n x,H'.get k=H.get k)->snap H' n x=snap H n x:=fun x h=>Li n h
   have b:∀l:List AV,(∀k∈l.flatMap (cC H n),H'.get k=H.get k)->aM (snap H' n) l=aM (snap H n) l:=fun l h=>
    uT fun x z=>w x fun k B=>h k (mem_flatMap.2 ⟨x,z,B⟩)
   cases x with
   | ptr k i L =>
     simp only[cC] at h;simp only[snap];rw[h k ag];cases e:H.get k with
     | none=>rfl
     | some o =>
       cases o with
       | dJ _ _=>rfl
       | lp _ _ _ _ _=>rfl
       | mp _=>rfl
       | cm _ _=>rfl
       | arr A c =>
         grind
   | ay k i m A =>
     simp only[cC] at h;simp only[snap];rw[h k ag];cases e:H.get k with
     | none=>rfl
     | some o =>
       cases o with
       | dJ _ _=>rfl
       | lp _ _ _ _ _=>rfl
       | mp _=>rfl
       | cm _ _=>rfl
       | arr E c =>
         rw[e] at h;dsimp only;have:aM (aM (snap H' n)) ((c.drop i).take m)=aM (aM (snap H n)) ((c.drop i).take m):=
          uT fun F I => b F fun j M => h j (by
           grind)
         grind
   | cX k =>
     simp only[cC] at h;simp only[snap];rw[h k ag];cases e:H.get k with
     | none=>rfl
     | some o =>
       cases o with
       | dJ _ _=>rfl
       | lp _ _ _ _ _=>rfl
       | arr _ _=>rfl
       | cm _ _=>rfl
       | mp c =>
         rw[e] at h;dsimp only;have:aM (gl (snap H' n)) c=aM (gl (snap H n)) c:=
          uT fun p O=>by unfold gl;grind
         grind
   | fn f Q N =>
     simp only[cC] at h;simp only[snap]
     grind
   | cG t v=>simp only[snap];rw[w v h]
   | agg r=>simp only[snap];rw[b r h]
   | ao r=>simp only[snap];rw[b r h]
   | _=>rfl
theorem w7 {α b:Type}{f g:α->List b}:∀{l:List α},(∀x∈l,f x=g x)->l.flatMap f=l.flatMap g
 | [],_=>rfl
 | x :: l, h => by
   rw[flatMap_cons,flatMap_cons,h x ag,w7 fun y c=>h y bj]
theorem yX {H H':aj}:∀(n:Nat) {x:AV},(∀k∈cC H n x,H'.get k=H.get k)->cC H' n x=cC H n x
 | 0,_,_=>rfl
 | n + 1, x, h => by
   have m:∀l:List AV,(∀k∈l.flatMap (cC H n),H'.get k=H.get k)->l.flatMap (cC H' n)=l.flatMap (cC H n):=fun l h=>
    w7 fun x s=>yX n fun k r=>h k (mem_flatMap.2 ⟨x,s,r⟩)
   cases x with
   | ptr k i w =>
     simp only[cC] at h ⊢
     grind
   | ay k i b L =>
     simp only[cC] at h ⊢;rw[h k ag];cases e:H.get k with
     | none=>rfl
     | some o =>
       cases o with
       | dJ _ _=>rfl
       | lp _ _ _ _ _=>rfl
       | mp _=>rfl
       | cm _ _=>rfl
       | arr C c =>
         rw[e] at h;dsimp only;have:(((c.drop i).take b).flatMap fun e=>e.flatMap (cC H' n))=((c.drop i).take b).flatMap fun e=>e.flatMap (cC H n):=
          w7 fun F u => m F fun j G => h j (by
           grind)
         grind
   | cX k =>
     simp only[cC] at h ⊢;rw[h k ag];cases e:H.get k with
     | none=>rfl
     | some o =>
       cases o with
       | dJ _ _=>rfl
       | lp _ _ _ _ _=>rfl
       | arr _ _=>rfl
       | cm _ _=>rfl
       | mp c =>
         rw[e] at h;dsimp only at h ⊢;have:(c.flatMap fun p=>cC H' n p.2)=c.flatMap fun p=>cC H n p.2:=
          w7 fun p N=>yX n fun j G=>h j bj
         grind
   | fn f P M =>
     simp only[cC] at h ⊢
     grind
   | cG t v=>simp only[cC] at h ⊢;exact yX n h
   | agg K=>simp only[cC] at h ⊢;grind
   | ao K=>simp only[cC] at h ⊢;grind
   | _=>rfl
def jv:List Oper->List Nat->List Nat
 | [],a=>a
 | o::l,a=>jv l (a++[o.after.toList.foldl (fun s e=>bif Region.binds .any e then s ||| 2 ^ e.on ||| a.getD e.on 0 else s) 0])
inductive Reach (ops:Array Oper):Nat->Nat->Prop where
 | one {i:Nat} {o:Oper} {e:Edge} (ho:ops[i]? = some o) (he:e∈o.after) (hb:Region.binds .any e=true):Reach ops i e.on
 | more {i j:Nat} {o:Oper} {e:Edge} (ho:ops[i]? = some o) (he:e∈o.after) (hb:Region.binds .any e=true) (h:Reach ops e.on j):Reach ops i j
theorem E5 {ops:Array Oper}:∀(l:List Oper) (acc:List Nat),ops.toList=ops.toList.take acc.length++l->(∀(i:Nat) b,acc[i]? = some b->∀j,b.testBit j=true->Reach ops i j)->
 ∀(i:Nat) b,(jv l acc)[i]? = some b->∀j,b.testBit j=true->Reach ops i j
 | [],acc,_,h=>h
 | o :: l, acc, d, h => by
   have r:acc.length<ops.size:=by
    have:=zbc length d;simp at this;omega
   have u:ops[acc.length]? = some o:=by
    have q:ops.toList[acc.length]? = some o:=by
     rw[d,zbv bj];simp;rw[show acc.length - min acc.length ops.size=0 by omega]
     rfl
    simpa using q
   refine E5 l _ ?_ ?_
   . grind
   . intro i b g j a
     by_cases E:i<acc.length
     . grind
     . rw [zbv aa] at g
       have p:i=acc.length:=by
        rcases zbI (i - acc.length) 1 with q|q
        . omega
        . grind
       subst p;simp only[zcB,zb3,zbg] at g;subst g;have x:∀(k:List Edge) (s:Nat),(∀e∈k,e∈o.after)->(∀j,s.testBit j=true->Reach ops acc.length j)->
        ∀j,(k.foldl (fun s e=>bif Region.binds .any e then s ||| 2 ^ e.on ||| acc.getD e.on 0 else s) s).testBit j=true->Reach ops acc.length j:=by
        intro k
        induction k with
        | nil=>simp
        | cons e k y =>
          intro s n D j a;refine y _ (fun B A=>n B bj) (fun j a=>?_) j a
          dsimp only at a;cases g:Region.binds .any e with
          | false=>grind
          | true =>
            rw[g] at a;simp only[zbN,testBit_or,zbQ,testBit_two_pow,zbz] at a;have m:=n e ag;rcases a with(a|a)|a
            . grind
            . subst a;exact .one u m g
            . cases w : acc[e.on]? with
              | none=>grind
              | some C =>
                rw[zbD,w] at a;exact .more u m g (h e.on C w j a)
       grind
def comp (a:List Nat)(i j:Nat):Bool:=(a.getD i 0).testBit j || (a.getD j 0).testBit i
theorem A0 {ops:Array Oper}{i j:Nat}(h:comp (jv ops.toList []) i j=true):Reach ops i j∨Reach ops j i:=by
 have a:=E5 (ops:=ops) ops.toList [] ag (ag);simp[comp] at h
 grind
def oi:List Oper->Nat->Bool
 | [],_=>true
 | o::l,i=>o.after.toList.all (fun e=>!Region.binds .any e || blt e.on i) && oi l (i+1)
def y4 (ops:Array Oper)(a:List Nat):Bool:=
 (List.range ops.size).all fun i=>(List.range ops.size).all fun j=>i == j || comp a i j ||
  (match ops[i]?, ops[j]? with
   | some x, some y => match x.dst with
     | some d=>!(Oper.looksAt ops y).contains d && y.dst != some d
     | none=>true
   | _,_=>true)
end Go.Ago
section
namespace Go.Ago
open List Nat
section
variable {P:Program} {E:Env} {G:eZ} {c c1:Ctx} {w w':World} {H H1:aj}
def vM (x:AV):Prop:=∀(c a:Ctx) (w:World) (v:Value),a.aq=c.aq->Rel c w x v->Rel a w x v
def vH:an->Prop
 | .arr _ a=>∀(i:Nat) e,a[i]? = some e->∀(j:Nat) x,e[j]? = some x->hU x=true
 | .mp a=>∀p∈a,vM p.2
 | _=>False
theorem vH.rel {c c':Ctx}{w:World}{B:fo}{o:an}(d:vH o)(hi:c'.aq=c.aq)(h:fM c w B o):fM c' w B o:=by
 cases o with
 | arr O z =>
   obtain⟨arr,t,l,m,n,p,g⟩:=h;refine⟨arr,t,l,m,n,p,fun i e r=>⟨(g i e r).1,fun j x u=>?_⟩⟩
   obtain⟨v,I,M⟩:=(g i e r).2 j x u;exact⟨v,I,w6 hi M (d i e r j x u)⟩
 | mp z =>
   obtain⟨F,q,a,l,m,n,f,p,g,J⟩:=h;exact⟨F,q,a,l,m,n,f,p,g,fun k x e=>d _ e c _ w _ hi (J k x e)⟩
 | dJ s D=>exact d.elim
 | lp R y Q L A=>exact d.elim
 | cm C z=>exact d.elim
theorem aN.ES (q:aN G c w H){nm K0:Nat}{ob:an}(W:c.f nm=none)(s:nm+1<2 ^ 24)(n:ExtM 0 c.bare w .nil c1 w' H1)(J:aN G c1 w' H1)(C:H1.get K0=some ob)(I:vH ob) :
 ∃c' B,c1.f K0=some B∧c'.f nm=some B∧(∀k,k≠nm->c'.f k=c.f k)∧(∀m,m≤nm->ExtM m c w H c' w' (H.set 24 nm (some ob)))∧aN G c' w' (H.set 24 nm (some ob)):=by
 obtain⟨B,D,K,M⟩:=J.obj K0 _ C;have S:w.heap.size≤B.b:=by
  rcases n.own B.b ⟨K0,_,B,C,D,rfl⟩ with g|g
  . exact(lJ g).elim
  . exact g
 have j:∀b,b<w.heap.size->w'.heap[b]? = w.heap[b]?:=fun b j=>n.other b j lJ
 have Q:∀b,c1.aq b->c.aq b∨w.heap.size≤b:=fun b j=>by
  rcases n.ez b j with g|g|g
  . exact .inl g
  . exact(lJ g).elim
  omega
 let c':Ctx:=⟨fun k=>if k=nm then some B else c.f k,c1.aq⟩
 have F:c.le c':=⟨fun k p e=>by
  grind,fun b j=>n.aq b j⟩
 have r:∀{x v},Rel c w x v->Rel c' w' x v:=fun Z=>Z.mono F (fun b e=>j b (q.bN b e))
 have h:c'.f nm=some B:=if_pos rfl;have d:∀k,k≠nm->c'.f k=c.f k:=fun k C=>if_neg C
 have l:∀k,(H.set 24 nm (some ob)).get k=if k=nm then some ob else H.get k:=fun k=>Tr.eQ 24 nm _ H k s
 refine⟨c',B,D,h,d,fun m hm=>⟨fun k C=>d k aa,fun b j=>n.aq b j,n.os,n.tape,n.output,n.size,fun b t _=>j b t,fun b U=>?_,?_⟩,⟨J.bN,fun k y e=>?_,fun k o e=>?_,fun k A o V R O e L f u X=>?_,fun g Y e=>r (q.bS g Y e)⟩⟩
 . grind
 . rintro b ⟨k, o, y, e, f, rfl⟩
   by_cases a:k=nm
   . grind
   . rw[l,if_neg a] at e;rw[d k a] at f;exact .inl ⟨k,o,y,e,f,rfl⟩
 . by_cases a : k = nm
   . subst a;rw[h] at e;cases e;exact J.bW K0 B D
   . rw[d k a] at e;exact zbJ (q.bW k y e) n.size
 . rw [l] at e
   by_cases a:k=nm
   . subst a
     rw[if_pos rfl] at e;cases e;exact⟨B,h,K,I.rel (c:=c1) (c':=c') rfl M⟩
   . rw [if_neg a] at e
     obtain⟨y,T,g2,g3⟩:=q.obj k o e;have t:=q.bW k y T;exact⟨y,(d k a).trans T,fun hi=>by
      grind,g3.mono (j _ t) r (fun b e=>⟨n.aq b e,j b (q.bN b e)⟩)⟩
 . rw [l] at e L
   by_cases a:k=nm<;>by_cases i:A=nm
   . omega
   . subst a;rw[h] at f;cases f;rw[d A i] at u;have:=q.bW A O u;omega
   . subst i;rw[h] at u;cases u;rw[d k a] at f;have:=q.bW k R f;omega
   . rw [if_neg a] at e; rw [if_neg i] at L; rw [d k a] at f; rw [d A i] at u
     exact q.inj k A o V R O e L f u X
end
end Go.Ago
end
