/-
  Part A09: lemmas, each with its own conditions.
-/
import Derived.RangeFuncLeaves
import Derived.OrdersIn
import Derived.LoopNIn
import Derived.RangeFuncRecord
import Derived.Test.YthaolifcglpkdaaGreatDoorA08
set_option maxRecDepth 100000
set_option maxHeartbeats 0
set_option linter.all false
section
namespace Go.Ago
open List Nat
inductive AE where
 | ret (v:AV)
 | aR (v:AV)
inductive AX where
 | normal
 | exit (id:Nat)
 | goto (l:Nat)
 | ret
 | aR (v:AV)
def lS (c:Ctx)(w:World):AE->Ending->Prop
 | .ret x,.returned v=>Rel c w x v
 | .aR x,.panicked a=>∃v,a=[{ v,recovered:=false }]∧Rel c w x v
 | _,_=>False
def vF (c:Ctx)(w:World):AX->Exit->Prop
 | .normal,.normal | .ret,.ret=>True
 | .exit i,.exit j | .goto i,.goto j=>i=j
 | .aR x,.panic a=>∃v,a=[{ v,recovered:=false }]∧Rel c w x v
 | _,_=>False
structure ExtM (m:Nat)(c:Ctx)(w:World)(H:ai)(c':Ctx)(w':World)(H':ai):Prop where
 f:∀k,k<m->c'.f k=c.f k
 au:∀b,c.au b->c'.au b
 os:w'.os=w.os
 tape:w'.tape=w.tape
 output:w'.output=w.output
 size:w.heap.size≤w'.heap.size
 other:∀b,b<w.heap.size->¬Own c H b->w'.heap[b]? = w.heap[b]?
 eG:∀b,c'.au b->c.au b∨Own c H b∨w.heap.size≤b
 own:∀b,Own c' H' b->Own c H b∨w.heap.size≤b
section
variable {m:Nat} {c c' c'':Ctx} {w w' w'':World} {H H' H'':ai}
theorem ExtM.refl (m:Nat)(c:Ctx)(w:World)(H:ai):ExtM m c w H c w H:=
 ⟨fun _ _=>rfl,fun _ h=>h,rfl,rfl,rfl,Nat.le_refl _,fun _ _ _=>rfl,fun _ h => .inl h,fun _ h => .inl h⟩
theorem ExtM.trans (h:ExtM m c w H c' w' H')(d:ExtM m c' w' H' c'' w'' H''):ExtM m c w H c'' w'' H'':={
 f k l:=(d.f k l).trans (h.f k l)
 au b e:=d.au b (h.au b e)
 os:=d.os.trans h.os
 tape:=d.tape.trans h.tape
 output:=d.output.trans h.output
 size:=Nat.le_trans h.size d.size
 other b e n := (d.other b (Nat.lt_of_lt_of_le e h.size) (fun o=>by
  rcases h.own b o with a|a<;>grind)).trans (h.other b e n)
 eG b e:=by
  rcases d.eG b e with a|a|a
  . exact h.eG b a
  . rcases h.own b a with p | p
    . grind
    omega
  exact .inr (.inr (Nat.le_trans h.size a))
 own b e:=by
  rcases d.own b e with a|a
  . exact h.own b a
  exact .inr (Nat.le_trans h.size a) }
theorem ExtM.less {a:Nat}(h:ExtM m c w H c' w' H')(d:a≤m):ExtM a c w H c' w' H':={ h with f:=fun k b=>h.f k (Nat.lt_of_lt_of_le b d) }
theorem Ext.toM (h:Ext c w H c' w' H')(a:∀k,k<m->c'.f k=c.f k):ExtM m c w H c' w' H':=
 ⟨a,h.le.au,h.os,h.tape,h.output,h.size,h.other,h.eG,h.own⟩
theorem ExtM.drew (h:ExtM m c w H c' w' H'):ExtM m c w H c' w'.drew H':=⟨h.f,h.au,h.os,h.tape,h.output,h.size,h.other,h.eG,h.own⟩
end
def FR (r:Option Nat):Fence:={ Fence.wide with round:=r }
theorem Fg {r:Option Nat}{n:Nat}{P:Program}{f:FuncId}{args:Array Value}{w:World}{R:Ending->World->Prop}:CallsIn (FR r) n P f args w R↔Calls P f args w R:=
 callsIn_wide
def iP (c:Ctx)(w:World):Nat->List Deferred->Prop
 | _,[]=>True
 | b,d::e=>∃D,d={ target := .collected D,args:=#[] }∧D<b∧¬c.au D∧w.heap[D]? = some (.deferred (some []))∧iP c w D e
theorem iP.mono {c c':Ctx}{w w':World}:∀{hi a:Nat} {i:List Deferred},iP c w hi i->hi≤a->(∀D,D<hi->¬c.au D->w.heap[D]? = some (.deferred (some []))->¬c'.au D∧w'.heap[D]? = some (.deferred (some [])))->iP c' w' a i
 | _,_,[],_,_,_=>trivial
 | _, _, _ :: _, ⟨D, j, b, g, f, k⟩, e, h =>
   ⟨D,j,Nat.lt_of_lt_of_le b e,(h D b g f).1,(h D b g f).2,iP.mono k (ag) fun l d=>h _ (Nat.lt_trans d b)⟩
theorem aN.xC {G:eZ}{c:Ctx}{w:World}{H:ai}(h:aN G c w H){D:Nat}{x:Option (List Deferred)}(C:w.heap[D]? = some (.deferred x)):¬Own c H D:=by
 rintro⟨k,o,B,v,z,rfl⟩
 obtain⟨K,q,_,b⟩:=h.obj k o v;cases o with
 | arr J l=>obtain⟨arr,t,d,_⟩:=b;grind
 | dG s n=>have:=b.1;grind
 | lp I i A u j=>obtain⟨r,g,d,_⟩:=b;grind
 | mp l=>obtain⟨_,f,a,d,_⟩:=b;grind
 | cm m l=>obtain⟨_,r,f,a,seen,d,_⟩:=b;grind
theorem ExtM.defs {m:Nat}{G:eZ}{c c':Ctx}{w w':World}{H H':ai}(h:ExtM m c w H c' w' H')(f:aN G c w H){e:List Deferred}(i:iP c w w.heap.size e):iP c' w' w'.heap.size e:=
 i.mono h.size fun D d j b=>⟨fun a=>by
  rcases h.eG D a with g|g|g
  . grind
  . exact f.xC b g
  omega,(h.other D d (f.xC b)).trans b⟩
theorem Ext.defs {G:eZ}{c c':Ctx}{w w':World}{H H':ai}(h:Ext c w H c' w' H')(d:aN G c w H){a:List Deferred}(b:iP c w w.heap.size a):iP c' w' w'.heap.size a:=
 ExtM.defs (m:=0) (h.toM (ag)) d b
def Gd (w:World)(a c:Act):Prop:=∃b,c.defers=b++a.defers∧∀d∈b,∃D,d={ target := .collected D,args:=#[] }∧w.heap.size≤D
theorem Gd.refl (w:World)(a:Act):Gd w a a:=⟨[],rfl,ag⟩
theorem Gd.trans {w w':World}{a g b:Act}(h:Gd w a g)(f:Gd w' g b)(k:w.heap.size≤w'.heap.size):Gd w a b:=by
 obtain⟨i,e,h⟩:=h;obtain⟨c,l,f⟩:=f;refine⟨c++i,by grind,fun d j=>?_⟩
 grind
theorem Gd.same {w:World}{a c b:Act}(h:Gd w a c)(e:b.defers=c.defers):Gd w a b:=by
 obtain⟨f,d,h⟩:=h;exact⟨f,e.trans d,h⟩
theorem put_defers (a:Act)(d:Option Tmp)(v:Value):(a.put d v).defers=a.defers:=by cases d<;>rfl
structure ek (m:Nat)(c:Ctx)(a:Act)(w:World)(H:ai)(c':Ctx)(a':Act)(w':World)(H':ai):Prop extends ExtM m c w H c' w' H' where
 gd:Gd w a a'
section
variable {m:Nat} {c c' c'':Ctx} {a a' a'':Act} {w w' w'':World} {H H' H'':ai}
theorem ek.refl (m:Nat)(c:Ctx)(a:Act)(w:World)(H:ai):ek m c a w H c a w H:=⟨ExtM.refl m c w H,Gd.refl w a⟩
theorem ek.trans (h:ek m c a w H c' a' w' H')(g:ek m c' a' w' H' c'' a'' w'' H''):ek m c a w H c'' a'' w'' H'':=⟨h.toExtM.trans g.toExtM,h.gd.trans g.gd h.size⟩
theorem ek.jg (h:ek m c a w H c' a' w' H')(j:ExtM m c' w' H' c'' w'' H'')(e:a''.defers=a'.defers):ek m c a w H c'' a'' w'' H'':=⟨h.toExtM.trans j,h.gd.same e⟩
end
structure c_ (P:Program)(E:Env)(c:Ctx)(S:St)(a:Act)(w:World):Prop where
 size:a.tmps.size=S.bF
 bo:∀t x,S.bo.get t=some x->∃v,a.tmps[t]? = some v∧Rel c w x v
 defers:iP c w w.heap.size a.defers
 bu:aN E.bR c w S.heap
 fresh:∀k,S.next≤k->c.f k=none
def rf (P:Program)(g:FuncId):Prop:=∃a,P.funcs[g]? = some a∧a.body.isSome=true∧a.name ≠ "runtime.NumGoroutine"
def AC (P:Program)(E:Env)(g:FuncId)(args:List AV)(H:ai)(nx:Nat)(R:AE->ai->Nat->Prop):Prop:=
 rf P g∧∀c w j,aN E.bR c w H->(∀k,nx≤k->c.f k=none)->aQ c w args j->
  Calls P g j.toArray w fun e h=>∃b d a i,ExtM nx c w H b h d∧aN E.bR b h d∧nx≤a∧(∀k,a≤k->b.f k=none)∧lS b h i e∧R i d a
def PC (P:Program)(E:Env)(g:FuncId)(args:List AV)(Q:AE->Prop):Prop:=
 rf P g∧∀c w h,(∀k,c.f k=none)->aN E.bR c w .nil->aQ c w args h->
  Calls P g h.toArray w fun e b=>∃a d,Ext c w .nil a b .nil∧(∀k,a.f k=none)∧aN E.bR a b .nil∧lS a b d e∧Q d
def QS (P:Program)(E:Env)(m:Nat)(c0:Ctx)(a0:Act)(w0:World)(S0:St)(K:AX->St->Prop):Exit->Act->World->Prop:=
 fun e f b=>∃c a d,ek m c0 a0 w0 S0.heap c f b a.heap∧S0.next≤a.next∧c_ P E c a f b∧vF c b d e∧K d a
def SW (P:Program)(E:Env)(b:Bool)(code:Code)(K:AX->St->Prop)(S:St):Prop:=
 ∀r,(b=false->r=none)->∀m,m≤S.next->∀c a w,c_ P E c S a w->code.wpIn (FR r) 0 P (QS P E m c a w S K) a w
def AY (P:Program)(E:Env)(k:Nat)(args:List AV)(H:ai)(nx:Nat)(R:AE->ai->Nat->Prop):Prop:=
 ∀c w h,aN E.bR c w H->(∀j,nx≤j->c.f j=none)->aQ c w args h->∃B a,c.f k=some B∧w.heap[B.b]? = some (.loop a)∧h.length=a.params.size ∧
  RoundIn Fence.wide 0 P B.b a.fn ((a.params.zip h.toArray).foldl (fun t (p,v)=>t.setIfInBounds p v) a.tmps) a.assign a.body w fun e i=>
   ∃g l d m,ExtM nx c w H g i l∧aN E.bR g i l∧nx≤d∧(∀k,d≤k->g.f k=none)∧lS g i m e∧R m l d
def cv (S:St):Option Tmp->Bool
 | none=>true
 | some d=>blt d S.bF && ble (d+2) 16777216
def St.put (S:St)(a:Option Tmp)(v:AV)(H:ai)(nx:Nat):St:=
 { bo:=match a with
  | none=>S.bo
  | some d=>S.bo.set 24 d (some v),bF:=S.bF,heap:=H,next:=nx }
def pI (P:Program)(E:Env)(f:AV)(args:List AV)(S:St)(d:Option Tmp)(b:St->Prop)(K:AX->St->Prop):Prop:=
 match f with
 | .fn (.func g) c h => AC P E g (c ++ args ++ h) S.heap S.next fun i e a => match i with
   | .ret v=>b (S.put d v e a)
   | .aR v=>K (.aR v) (S.put none .any e a)
 | .fT k => AY P E k args S.heap S.next fun i e a => match i with
   | .ret v=>b (S.put d v e a)
   | .aR v=>K (.aR v) (S.put none .any e a)
 | _=>False
def ln (P:Program)(E:Env)(nm:Nat)(o:Oper)(S:St)(a:St->Prop)(K:AX->St->Prop):Prop:=
 cv S o.dst=true∧match o.op with
  | .call { callee := .value f,args,.. }=>pI P E (S.ev E f) (args.toList.map (S.ev E)) S o.dst a K
  | d=>(cc E nm (S.ev E) d).holds S.heap (fun b=>a (S.put o.dst b.val (bk.dH S.heap b.up) S.next)) (fun v=>K (.aR v) S)
def gO (ops:List Oper)(S:St)(j:Nat)(a:Bool):Option Bool:=
 match ops[j]? with
 | some o => match o.dst with
   | some d => match S.bo.get d with
     | some (.bool b)=>some (b == a)
     | some (.ao [])=>some false
     | _=>none
   | none=>none
 | none=>none
theorem JP {c:Ctx}{w:World}:Rel c w (.ao []) undef:=Rel.ao rfl ag
def gate (ops:List Oper)(S:St)(g:Option (Nat×Bool))(p q:Prop):Prop:=
 match g with
 | none=>p
 | some (j, a) => match gO ops S j a with
   | some b=>(b=true->p)∧(b=false->q)
   | none=>False
def jC (P:Program)(E:Env)(ops:List Oper)(a:Nat)(K:AX->St->Prop):List Oper->Nat->St->Prop
 | [],_,S=>K .normal S
 | o::b,i,S=>gate ops S o.guard (ln P E (a+i) o S (jC P E ops a K b (i+1)) K) (cv S o.dst=true∧jC P E ops a K b (i+1) (S.put o.dst (.ao []) S.heap S.next))
def aw (P:Program)(E:Env)(d:Bool):Code->(AX->St->Prop)->St->Prop
 | .skip,K,S=>K .normal S
 | .label _,K,S=>K .normal S
 | .exit i,K,S=>K (.exit i) S
 | .goto l,K,S=>K (.goto l) S
 | .ret,K,S=>K .ret S
 | .region _ c false,K,S=>jC P E c.toList S.next K c.toList 0 { S with next:=S.next+c.size }
 | .seq a b,K,S=>aw P E d a (fun e f=>match e with | .normal=>aw P E d b K f|e=>K e f) S
 | .cond x t e, K, S => match S.ev E x with
   | .bool b=>(b=true->aw P E d t K S)∧(b=false->aw P E d e K S)
   | _=>False
 | .block id h, K, S => aw P E d h (fun e f => match e with
   | .exit j=>(j=id->K .normal f)∧(j≠id->K (.exit j) f)
   | e=>K e f) S
 | g,K,S=>SW P E d g K S
section
variable {P:Program} {E:Env} {c:Ctx} {S:St} {a:Act} {w:World}
theorem FW (v:Value):Rel c w (wA v) v:=by
 unfold wA;split<;>constructor
theorem Qp (v:Value):Rel c w (AQ v) v:=by
 unfold AQ;split
 . rename_i b
   have : Rel c w (.agg (b.toList.map _)) (.agg b.toList.toArray) := Rel.agg ag (fun i x v e f=>by
    simp only[getElem?_map,Option.map_eq_some_iff] at e;obtain⟨u,d,rfl⟩:=e;rw[f] at *;cases d;exact FW v)
   omega
 exact FW v
theorem c_.ev (h:c_ P E c S a w)(x:Operand):Rel c w (S.ev E x) (a.eval x):=by
 cases x with
 | tmp t =>
   simp[St.ev,Act.eval];cases e:S.bo.get t with
   | none=>exact .any _
   | some x =>
     obtain⟨v,l,k⟩:=h.bo t x e
     simp_all
 | const v=>exact Qp v
 | global g =>
   simp only[St.ev];cases e:E.bR g with
   | none=>exact .any _
   | some m=>exact h.bu.bR g _ e
 | func f =>
   have:=Rel.fn (c:=c) (w:=w) (.func f) (xs:=[]) (ys:=[]) (vs:=[]) (us:=[]) rfl rfl ag ag
   assumption
theorem c_.put {c':Ctx}{w':World}{H':ai}{i:Nat}(h:c_ P E c S a w)(g:iP c' w' w'.heap.size a.defers)(z:∀{x v},Rel c w x v->Rel c' w' x v)(n:aN E.bR c' w' H')(r:∀k,i≤k->c'.f k=none){b:Option Tmp}(j:cv S b=true){x:AV}{v:Value}(s:Rel c' w' x v) :
 c_ P E c' (S.put b x H' i) (a.put b v) w':=by
 cases b with
 | none=>exact⟨h.size,fun t y e=>by obtain⟨u,q,p⟩:=h.bo t y e;exact⟨u,q,z p⟩,g,n,r⟩
 | some d =>
   simp only[cv,Bool.and_eq_true] at j;have m:d<S.bF:=by simpa using j.1
   have l:(d+1:Nat)<2 ^ 24:=Nat.lt_of_lt_of_le (lt_succ_self (d+1)) (Nat.le_trans (le_of_ble_eq_true j.2) ab);refine⟨by simpa[Act.put,St.put] using h.size,fun t y e=>?_,g,n,r⟩
   simp only[St.put] at e;rw[Tr.eP 24 d _ _ t l] at e;simp only[Act.put]
   by_cases o:t=d
   . subst o
     simp_all
     subst e;exact⟨v,by simp[h.size,m],s⟩
   . rw [if_neg o] at e
     obtain⟨u,q,p⟩:=h.bo t y e
     grind
theorem qJ {g:FuncId}(h:rf P g)(args:Array Value)(w:World):(callFunc g args).run P w = .ok (.enter g args) w:=by
 obtain⟨d,e,i,f⟩:=h;have b:¬d.body=none:=by grind
 simp[callFunc,e,f,b]
structure Mid (P:Program)(E:Env)(m:Nat)(c0:Ctx)(a0:Act)(w0:World)(S0:St)(lo hi:Nat)(c:Ctx)(S:St)(a:Act)(w:World):Prop where
 ext:ek m c0 a0 w0 S0.heap c a w S.heap
 i_:S0.next≤S.next
 top:hi≤S.next
 iF:m≤lo
 bD:c_ P E c S a w
 free:∀k,lo≤k->k<hi->c.f k=none
theorem nT {r:Option Nat}{o:Oper}{N:Act->World->Prop}{Q:Exit->Act->World->Prop}(f:∀c,o.op≠.defer c)(g:∀b args w',(execOp a.eval o).run P w≠.ok (.row b args) w')(h:o.wp P a w N Q):o.wpIn (FR r) 0 P a w N Q:=by
 refine⟨fun _ _=>trivial,?_⟩
 rw[Oper.semAt_eq _ _ _ f];unfold Oper.wp at h
 generalize d:(execOp _ o).run P w=e at *
 unfold Oper.upon at h;split at h
 . exact h
 . exact h
 . exact h
 . exact⟨(fun h=>by cases h),Fg.2 h⟩
 . grind
 . exact h
 grind
variable {m lo hi:Nat} {c0:Ctx} {a0:Act} {w0:World} {S0:St} {K:AX->St->Prop} {rr:Bool} {r:Option Nat}
theorem NV (hE:bW P E){o:Oper}{Q:St->Prop}(d:Mid P E m c0 a0 w0 S0 lo hi c S a w)(hlt:lo<hi)(h:ln P E lo o S Q K){N:Act->World->Prop}
 (hN:∀c' S' a' w',Mid P E m c0 a0 w0 S0 (lo+1) hi c' S' a' w'->Q S'->N a' w'):o.wpIn (FR r) 0 P a w N (QS P E m c0 a0 w0 S0 K):=by
 obtain⟨hd,h⟩:=h;have hlo:c.f lo=none:=d.free lo (Nat.le_refl _) hlt;have prim:∀op,o.op=op->(cc E lo (S.ev E) op).holds S.heap (fun I=>Q (S.put o.dst I.val (bk.dH S.heap I.up) S.next)) (fun v=>K (.aR v) S)->o.wpIn (FR r) 0 P a w N (QS P E m c0 a0 w0 S0 K):=by
  intro op V h;subst V;have hnd:∀c,o.op≠.defer c:=fun c e=>by rw[e] at h;assumption
  rcases Rd.r7 h with⟨I,T,M⟩|⟨v,T,M⟩
  . obtain ⟨nx, w', c', A, i, F, hf, hv⟩ := Dg hE d.bD.bu hlo d.bD.ev o T
    refine nT hnd (fun row j w'' e=>?_) ?_
    . grind
    unfold Oper.wp;rw[A];have W:∀{x v},Rel c w x v->Rel c' w' x v:=fun T=>i.rel d.bD.bu T
    have mid:∀v,Rel c' w' I.val v->Mid P E m c0 a0 w0 S0 (lo+1) hi c' (S.put o.dst I.val (bk.dH S.heap I.up) S.next) (a.put o.dst v) w':=fun v hv=>
     ⟨d.ext.jg (i.toM fun k M=>hf k (by have:=d.iF;omega)) (put_defers ..),d.i_,d.top,le_succ_of_le d.iF,
      d.bD.put (i.defs d.bD.bu d.bD.defers) W F (fun k M=>by rw[hf k (by have:=d.top;omega)];exact d.bD.fresh k M) hd hv,
      fun k h1 Y=>by rw[hf k aa];exact d.free k aa Y⟩
    rcases hv with⟨v,rfl,hv⟩|⟨rfl,hany⟩
    . exact hN _ _ _ _ (mid v hv) M
    . exact hN _ _ _ _ (mid undef (by rw[hany];exact .any _)) M
  . obtain ⟨u, A, hu⟩ := Dg hE d.bD.bu hlo d.bD.ev o T
    refine nT hnd (fun row j w'' e=>?_) ?_
    . grind
    unfold Oper.wp;rw[A];exact⟨c,S,.aR v,d.ext,d.i_,d.bD,⟨u,rfl,hu⟩,M⟩
 split at h
 . rename_i f j ts V
   have H:=d.bD.ev f;unfold pI at h;split at h
   . rename_i g first cap hev
     rw[hev] at H
     generalize X:a.eval f=fv at H
     cases H with
     | @fn _ _ _ _ _ vs us h1 Y hr1 hr2 =>
       obtain⟨hok,h⟩:=h;have D:=oU d.bD.ev j.toList;have hall:aQ c w (first++j.toList.map (S.ev E)++cap) (vs++j.toList.map a.eval++us):=((aQ.append ⟨h1,hr1⟩ D).append ⟨Y,hr2⟩);have U:=h c w _ d.bD.bu d.bD.fresh hall;have A:(execOp a.eval o).run P w = .ok (.enter g (vs++j.toList.map a.eval++us).toArray) w:=by
        have e:vs.toArray++j.map a.eval++us.toArray=(vs++j.toList.map a.eval++us).toArray:=by
         apply Array.ext';simp
        simp only[execOp,V,resolve,X,Deferred.ofValue,Sem.run_bind,Sem.run_pure,Result.andThen_ok,invoke,qJ hok,e]
       refine nT (fun c e=>by grind) (fun row j w'' e=>by grind) ?_
       unfold Oper.wp;rw[A];refine U.mono ?_
       rintro e w' ⟨c',H',O,ae,i,F,L,C,l,hR⟩
       have Z:c.le c':=by
        refine⟨fun k p e=>?_,i.au⟩
        by_cases M:k<S.next
        . rw[i.f k M];exact e
        . rw[d.bD.fresh k aa] at e;cases e
       have W:∀{x v},Rel c w x v->Rel c' w' x v:=fun T=>T.mono Z (fun b hb=>i.other b (d.bD.bu.bH b hb) (d.bD.bu.kO hb))
       have y:=i.less (by have:=d.iF;have:=d.top;omega:m≤S.next)
       have R:=i.defs d.bD.bu d.bD.defers;have hn:=Nat.le_trans d.i_ L;cases ae with
       | ret x =>
         cases e with
         | returned v =>
           refine hN c' (S.put o.dst x H' O) _ _ ⟨d.ext.jg y (put_defers ..),hn,Nat.le_trans d.top L,le_succ_of_le d.iF,d.bD.put R W F C hd l,fun k h1 Y=>?_⟩ hR
           rw[i.f k (by have:=d.top;omega)]
           exact d.free k aa Y
         | panicked _=>exact l.elim
         | outgrown=>exact l.elim
       | aR x =>
         cases e with
         | panicked chain=>exact⟨c',S.put none .any H' O,.aR x,d.ext.jg y rfl,hn,d.bD.put R W F C rfl (.any undef),l,hR⟩
         | returned _=>exact l.elim
         | outgrown=>exact l.elim
   . rename_i k hev
     rw[hev] at H
     generalize X:a.eval f=fv at H
     cases H with
     | @fT _ _ _ B hB =>
       have D:=oU d.bD.ev j.toList;obtain⟨B',z,hB',hrec,hlen,G⟩:=h c w _ d.bD.bu d.bD.fresh D;rw[hB] at hB';cases hB';refine⟨fun _ _=>trivial,?_⟩
       rw[Oper.semAt_eq _ _ _ (fun c e=>by grind)]
       have hsz:(j.map a.eval).size=z.params.size:=by rw[<-hlen];simp
       have hlist:(j.toList.map a.eval).toArray=j.map a.eval:=by apply Array.ext';simp
       rw[hlist] at G;have A:(execOp a.eval o).run P w = .ok (.round B.b z.fn ((z.params.zip (j.map a.eval)).foldl (fun t (p,v)=>t.setIfInBounds p v) z.tmps) z.assign z.body) w:=by
        have:=run_yield (P:=P) (args:=j.map a.eval) hrec hsz;simp only[execOp,V,resolve,X,Deferred.ofValue,Sem.run_bind,Sem.run_pure,Result.andThen_ok,invoke]
        simpa using this
       rw[A,Oper.uponIn_round];refine⟨(fun h=>by cases h),?_⟩
       have J:RoundIn (FR r) 0 P B.b z.fn ((z.params.zip (j.map a.eval)).foldl (fun t (p,v)=>t.setIfInBounds p v) z.tmps) z.assign z.body w _:=G
       refine J.mono ?_
       rintro e w' ⟨c',H',O,ae,i,F,L,C,l,hR⟩
       have Z:c.le c':=by
        refine⟨fun k p e=>?_,i.au⟩
        by_cases M:k<S.next
        . rw[i.f k M];exact e
        . rw[d.bD.fresh k aa] at e;cases e
       have W:∀{x v},Rel c w x v->Rel c' w' x v:=fun T=>T.mono Z (fun b hb=>i.other b (d.bD.bu.bH b hb) (d.bD.bu.kO hb))
       have y:=i.less (by have:=d.iF;have:=d.top;omega:m≤S.next)
       have R:=i.defs d.bD.bu d.bD.defers;have hn:=Nat.le_trans d.i_ L;cases ae with
       | ret x =>
         cases e with
         | returned v =>
           refine hN c' (S.put o.dst x H' O) _ _ ⟨d.ext.jg y (put_defers ..),hn,Nat.le_trans d.top L,le_succ_of_le d.iF,d.bD.put R W F C hd l,fun k h1 Y=>?_⟩ hR
           rw[i.f k (by have:=d.top;omega)]
           exact d.free k aa Y
         | panicked _=>exact l.elim
         | outgrown=>exact l.elim
       | aR x =>
         cases e with
         | panicked chain=>exact⟨c',S.put none .any H' O,.aR x,d.ext.jg y rfl,hn,d.bD.put R W F C rfl (.any undef),l,hR⟩
         | returned _=>exact l.elim
         | outgrown=>exact l.elim
   grind
 grind
theorem Hi {ops:Array Oper}(y:c_ P E c S a w){o:Oper}{j:Nat}{g b:Bool}(q:o.guard=some (j,g))(h:gO ops.toList S j g=some b):Region.wanted o (yielded ops a.tmps)=b:=by
 simp only[gO] at h;cases n:ops.toList[j]? with
 | none=>grind
 | some p =>
   rw[n] at h;dsimp only at h;cases k:p.dst with
   | none=>grind
   | some d =>
     rw[k] at h;dsimp only at h;have i:ops[j]? = some p:=by simpa using n
     cases t:S.bo.get d with
     | none=>grind
     | some x =>
       rw[t] at h;obtain⟨v,s,u⟩:=y.bo d _ t;split at h
       . rename_i D e
         cases e;cases h;cases u;simp only[Region.wanted,q,yielded,i,Option.bind_some,k,s];rfl
       . rename_i e
         cases e;cases h;cases u with
         | @ao _ _ C z A _ =>
           have:z=[]:=eq_nil_of_length_eq_zero A.symm;subst this;simp only[Region.wanted,q,yielded,i,Option.bind_some,k,s];rfl
       grind
theorem Ad (D:bW P E){ops:Array Oper}:∀(e:List Oper) (i d:Nat) (c:Ctx) (S:St) (a:Act) (w:World),ops.toList.drop i=e->
 Mid P E m c0 a0 w0 S0 (d+i) (d+ops.size) c S a w->jC P E ops.toList d K e i S->wpOpsIn (FR r) 0 P ops (QS P E m c0 a0 w0 S0 K) ((List.range ops.size).drop i) a w
 | [], i, d, c, S, a, w, t, f, h => by
   have M:ops.size≤i:=by
    have:=congrArg length t;simp at this;omega
   rw[drop_eq_nil_of_le aY];exact⟨c,S,.normal,f.ext,f.i_,f.bD,trivial,h⟩
 | o :: e, i, d, c, S, a, w, t, f, h => by
   have M:i<ops.size:=by
    have:=congrArg length t;simp at this;omega
   have L:ops[i]? = some o:=by
    have:(ops.toList.drop i)[0]? = some o:=by rw[t];rfl
    simpa using this
   have s:ops.toList.drop (i+1)=e:=by
    rw[<-drop_drop,t];rfl
   rw[drop_eq_getElem_cons aY];simp only[getElem_range,wpOpsIn,L];have B:=Ad D (ops:=ops) e (i+1) d;have p:=fun u h=>
    B c (S.put o.dst (.ao []) S.heap S.next) _ w s ⟨f.ext.jg (ExtM.refl ..) (put_defers ..),f.i_,f.top,le_succ_of_le f.iF,f.bD.put f.bD.defers (fun h=>h) f.bD.bu f.bD.fresh u JP,fun k A z=>f.free k aa z⟩ h
   have I:ln P E (d+i) o S (jC P E ops.toList d K e (i+1)) K->o.wpIn (FR r) 0 P a w (wpOpsIn (FR r) 0 P ops (QS P E m c0 a0 w0 S0 K) ((List.range ops.size).drop (i+1))) (QS P E m c0 a0 w0 S0 K):=fun h=>
    NV D f aa h (fun F O G H y J=>B F O G H s y J)
   simp only[jC,gate] at h;cases x:o.guard with
   | none =>
     rw[x] at h;have:Region.wanted o (yielded ops a.tmps)=true:=by simp[Region.wanted,x]
     grind
   | some q =>
     obtain⟨j,v⟩:=q;rw[x] at h;dsimp only at h;cases C:gO ops.toList S j v with
     | none=>grind
     | some b =>
       rw[C] at h;rw[Hi f.bD x C];cases N:b with
       | true=>grind
       | false =>
         rw[if_neg ag];obtain⟨A,z⟩:=h.2 N;exact⟨fun _ _=>trivial,p A z⟩
theorem SW.frame {code:Code}{K:AX->St->Prop}(h:SW P E true code K S):SW P E rr code K S:=fun r _=>h r (ag)
theorem SW.mono {code:Code}{K K':AX->St->Prop}(h:SW P E rr code K S)(f:∀e S',K e S'->K' e S'):SW P E rr code K' S:=
 fun r g m i c a w j=>wpIn_mono (h r g m i c a w j) fun _ _ _ ⟨k,S',l,n,o,p,q,b⟩=>⟨k,S',l,n,o,p,q,f _ _ b⟩
theorem SW.seq {x y:Code}(h:SW P E rr x (fun e S'=>match e with | .normal=>SW P E rr y K S'|e=>K e S') S):SW P E rr (.seq x y) K S:=by
 intro r p m s c a w F;refine wpIn_seq (wpIn_mono (h r p m s c a w F) ?_)
 rintro e L z ⟨k,S',H,g,d,f,b,j⟩
 cases H with
 | normal =>
   cases e<;>first|exact b.elim|skip
   refine wpIn_mono (j r p m (Nat.le_trans s d) k L z f) ?_
   rintro Q N O ⟨C,D,n,G,B,A,I,J⟩
   exact⟨C,D,n,g.trans G,Nat.le_trans d B,A,I,J⟩
 | exit i=>cases e<;>first|exact b.elim|exact⟨k,S',_,g,d,f,b,j⟩
 | goto i=>cases e<;>first|exact b.elim|exact⟨k,S',_,g,d,f,b,j⟩
 | ret=>cases e<;>first|exact b.elim|exact⟨k,S',_,g,d,f,b,j⟩
 | aR v=>cases e<;>first|exact b.elim|exact⟨k,S',_,g,d,f,b,j⟩
theorem SW.block {id : Nat}{d : Code}(h : SW P E rr d (fun e S'=>match e with
 | .exit j=>(j=id->K .normal S')∧(j≠id->K (.exit j) S')
 | e=>K e S') S):SW P E rr (.block id d) K S:=by
 intro r t m u c a w z;refine wpIn_block (wpIn_mono (h r t m u c a w z) ?_)
 rintro e D C ⟨l,S',B,f,n,k,b,g⟩
 cases B with
 | exit i =>
   cases e<;>first|exact b.elim|skip
   rename_i j;obtain rfl:i=j:=b;simp only[Exit.inBlock]
   by_cases o:i=id
   . rw[if_pos o];exact⟨l,S',.normal,f,n,k,trivial,g.1 o⟩
   . rw[if_neg o];exact⟨l,S',.exit i,f,n,k,rfl,g.2 o⟩
 | normal=>cases e<;>first|exact b.elim|exact⟨l,S',_,f,n,k,b,g⟩
 | goto i=>cases e<;>first|exact b.elim|exact⟨l,S',_,f,n,k,b,g⟩
 | ret=>cases e<;>first|exact b.elim|exact⟨l,S',_,f,n,k,b,g⟩
 | aR v=>cases e<;>first|exact b.elim|exact⟨l,S',_,f,n,k,b,g⟩
theorem SW.region (f:bW P E){id:Nat}{ops:Array Oper}(h:jC P E ops.toList S.next K ops.toList 0 { S with next:=S.next+ops.size }):SW P E rr (.region id ops false) K S:=by
 intro r i m e c a w b;refine wpIn_region ?_;have:=Ad (r:=r) f _ 0 _ c { S with next:=S.next+ops.size } a w rfl
  ⟨ek.refl m c a w S.heap,ag,ag,e,⟨b.size,b.bo,b.defers,b.bu,fun k j=>b.fresh k aY⟩,fun k d _=>b.fresh k d⟩ h
 grind
theorem SW.sA (f:bW P E):∀{code:Code} {K:AX->St->Prop} {S:St},aw P E rr code K S->SW P E rr code K S
 | .skip,K,S,h=>fun r _ m _ c a w d=>wpIn_skip ⟨c,S,.normal,ek.refl m c a w _,Nat.le_refl _,d,trivial,h⟩
 | .label _,K,S,h=>fun r _ m _ c a w d=>wpIn_label ⟨c,S,.normal,ek.refl m c a w _,Nat.le_refl _,d,trivial,h⟩
 | .exit i,K,S,h=>fun r _ m _ c a w d=>wpIn_exit ⟨c,S,.exit i,ek.refl m c a w _,Nat.le_refl _,d,rfl,h⟩
 | .goto i,K,S,h=>fun r _ m _ c a w d=>wpIn_goto ⟨c,S,.goto i,ek.refl m c a w _,Nat.le_refl _,d,rfl,h⟩
 | .ret,K,S,h=>fun r _ m _ c a w d=>wpIn_ret ⟨c,S,.ret,ek.refl m c a w _,Nat.le_refl _,d,trivial,h⟩
 | .region _ k false,K,S,h=>SW.region f h
 | .region _ k true,K,S,h=>h
 | .seq x y, K, S, h => SW.seq ((SW.sA f (code:=x) h).mono fun e u o=>by
  cases e<;>first|exact SW.sA f (code:=y) o|exact o)
 | .cond x t e, K, S, h => by
   intro r j m n c a w d;have l:=d.ev x;simp only[aw] at h;cases p:S.ev E x<;>rw[p] at h l<;>first|exact h.elim|skip
   rename_i b
   generalize s:a.eval x=v at l
   cases l;refine wpIn_cond s ?_;cases b with
   | true=>exact SW.sA f (code:=t) (h.1 rfl) r j m n c a w d
   | false=>exact SW.sA f (code:=e) (h.2 rfl) r j m n c a w d
 | .block id g,K,S,h=>SW.block (SW.sA f (code:=g) h)
 | .loop _,K,S,h=>h
 | .rangeFunc ..,K,S,h=>h
 | .scope _,K,S,h=>h
 | .refuse _,K,S,h=>h
end
end Go.Ago
end
section
namespace Go.Ago
open List Nat
def aM {α b:Type}(f:α->Option b):List α->Option (List b)
 | []=>some []
 | x :: l => match f x with
   | none=>none
   | some y => match aM f l with
     | none=>none
     | some c=>some (y::c)
theorem sj {α b:Type}{f:α->Option b}:∀{l:List α} {r:List b},aM f l=some r->r.length=l.length∧∀(i:Nat) x,l[i]? = some x->∃y,r[i]? = some y∧f x=some y
 | [],r,h=>by simp only[aM,Option.some.injEq] at h;grind
 | x :: l, r, h => by
   simp only[aM] at h;cases d:f x with
   | none=>grind
   | some y =>
     rw[d] at h;dsimp only at h;cases c:aM f l with
     | none=>grind
     | some e =>
       rw[c] at h;simp only[Option.some.injEq] at h;subst h;obtain⟨g,j⟩:=sj c
       grind
def gh (f:AV->Option AV)(p:Int×AV):Option (Int×AV):=match f p.2 with
 | some y=>some (p.1,y)
 | none=>none
theorem Iq {f:AV->Option AV}:∀{l r:List (Int×AV)},aM (gh f) l=some r->
 (∀k y,(k,y)∈r->∃x,(k,x)∈l∧f x=some y)∧∀k x,(k,x)∈l->∃y,(k,y)∈r
 | [],r,h=>by simp only[aM,Option.some.injEq] at h;grind
 | (a, z) :: l, r, h => by
   simp only[aM,gh] at h;cases d:f z with
   | none=>grind
   | some y =>
     rw[d] at h;dsimp only at h;cases c:aM (gh f) l with
     | none=>grind
     | some e =>
       rw[c] at h
       simp_all
       subst h;obtain⟨g,i⟩:=Iq c
       grind
theorem Ip {f:AV->Option AV}:∀{l r:List (Int×AV)},aM (gh f) l=some r->r.map (·.1)=l.map (·.1)
 | [],r,h=>by simp only[aM] at h;grind
 | (a, z) :: l, r, h => by
   simp[aM,gh] at h;cases d:f z with
   | none=>grind
   | some y =>
     cases c:aM (gh f) l with
     | none=>grind
     | some e =>
       simp_all
       subst h;simp[map_cons,Ip c]
def snap (H:ai):Nat->AV->Option AV
 | 0,_=>none
 | n + 1, v => match v with
   | .ptr k i j => match H.get k with
     | some (.arr _ d) => match d[i]? with
       | some e => match aM (snap H n) (e.drop j) with
         | some b=>some (.bq b)
         | none=>none
       | none=>none
     | _=>none
   | .az k i g o => match H.get k with
     | some (.arr l d) => match o == l && ble (i + g) d.length with
       | true => match aM (aM (snap H n)) ((d.drop i).take g) with
         | some c=>some (.ak o c)
         | none=>none
       | false=>none
     | _=>none
   | .fT _=>none
   | .cY k => match H.get k with
     | some (.mp d) => match aM (gh (snap H n)) d with
       | some c=>some (.cK c)
       | none=>none
     | _=>none
   | .fn f m h => match aM (snap H n) m, aM (snap H n) h with
     | some m,some h=>some (.fn f m h)
     | _,_=>none
   | .cG t v => match snap H n v with
     | some v=>some (.cG t v)
     | none=>none
   | .agg b => match aM (snap H n) b with
     | some b=>some (.agg b)
     | none=>none
   | .ao b => match aM (snap H n) b with
     | some b=>some (.ao b)
     | none=>none
   | v=>some v
section
variable {P:Program} {E:Env} {G:eZ} {c:Ctx} {w:World} {H:ai}
theorem nJ {f:AV->Option AV}{c':Ctx}{xs ys:List AV}{vs:List Value}(d:aM f xs=some ys)(a:aQ c w xs vs)(g:∀x v y,Rel c w x v->f x=some y->Rel c' w y v):aQ c' w ys vs:=by
 obtain⟨h,j⟩:=sj d;refine⟨by rw[h];exact a.1,fun i y v e l=>?_⟩
 have m:i<xs.length:=by grind
 obtain⟨n,k,b⟩:=j i xs[i] (ag);rw[e] at *;cases k;exact g _ v y (a.2 i _ v (ag) l) b
theorem kR (hw:aN G c w H){I:Nat->Prop}(V:∀b,c.au b->I b)(hO:∀b,Own c H b->I b):∀(n:Nat) {x y:AV} {v:Value},Rel c w x v->snap H n x=some y->Rel ⟨fun _=>none,I⟩ w y v
 | 0,x,y,v,_,h=>by simp[snap] at h
 | n + 1, x, y, v, J, h => by
   have T:∀x v y,Rel c w x v->snap H n x=some y->Rel ⟨fun _=>none,I⟩ w y v:=fun x v y a b=>kR hw V hO n a b
   have hbare:c.bare.le ⟨fun _=>none,I⟩:=⟨fun _ _ h=>(by cases h),V⟩
   have triv:∀{z u},Rel c.bare w z u->Rel ⟨fun _=>none,I⟩ w z u:=fun h=>h.mono hbare (fun _ _=>rfl)
   cases J with
   | @ptr _ _ k i Y B C =>
     simp only[snap] at h;cases D:H.get k with
     | none=>grind
     | some o =>
       cases o with
       | dG _ _=>grind
       | lp _ _ _ _ _=>grind
       | mp _=>grind
       | cm _ _=>grind
       | arr sz Q =>
         rw[D] at h;dsimp only at h;cases g:Q[i]? with
         | none=>grind
         | some e =>
           rw[g] at h;dsimp only at h;cases d:aM (snap H n) (e.drop Y) with
           | none=>grind
           | some cs =>
             rw[d] at h;simp only[Option.some.injEq] at h;subst h;have hBsz:=(hw.sz D C).1;obtain ⟨us, N, F⟩ := Bl (c := c) (w := w) (L := e.drop Y) (a := ⟨B.b, B.s + (i * B.sz + Y), none⟩) (fun p x S=>by
              rw[getElem?_drop] at S;obtain⟨v,v1,_,v2⟩:=hw.cell D C g S;refine⟨v,?_,v2⟩;rw[add_plain,<-v1,hBsz]
              grind)
             have h3:=nJ d N T;exact Rel.bq (hO _ ⟨k,_,B,D,C,rfl⟩) h3.1 F h3.2
   | @az _ _ k i m sz cap B a C hs X U =>
     simp only[snap] at h;cases D:H.get k with
     | none=>grind
     | some o =>
       cases o with
       | dG _ _=>grind
       | lp _ _ _ _ _=>grind
       | mp _=>grind
       | cm _ _=>grind
       | arr sz' Q =>
         rw[D] at h;dsimp only at h;cases hq:(sz == sz' && ble (i+m) Q.length) with
         | false=>grind
         | true =>
           rw[hq] at h;dsimp only at h;simp only[Bool.and_eq_true,beq_iff_eq] at hq;obtain⟨hq1,hq2⟩:=hq;have hq2:=le_of_ble_eq_true hq2;subst hq1;cases d:aM (aM (snap H n)) ((Q.drop i).take m) with
           | none=>grind
           | some r =>
             rw[d] at h;simp only[Option.some.injEq] at h;subst h;obtain⟨m1,m2⟩:=sj d;have hlen':((Q.drop i).take m).length=m:=by simp;omega
             have hesl:r.length=m:=aa;have K:∀(j:Nat) A,r[j]? = some A->∃e,Q[i+j]? = some e∧aM (snap H n) e=some A:=by
              intro j A g;have W:j<((Q.drop i).take m).length:=by have:=(List.getElem?_eq_some_iff.1 g).1;omega
              obtain⟨y',e1,Z⟩:=m2 j _ (getElem?_eq_getElem W);rw[g] at e1;cases e1;exact⟨_,(sW i m j _ (getElem?_eq_getElem W)).1,Z⟩
             have hsz:=(hw.sz D C).2.2;have M:∀(j q:Nat),∃v,∀A x,r[j]? = some A->A[q]? = some x->w.cell? (a.add (j * sz+q))=some v∧Rel ⟨fun _=>none,I⟩ w x v:=by
              intro j q;cases g:r[j]? with
              | none=>simp
              | some A =>
                cases S:A[q]? with
                | none=>exact⟨undef,fun e'' x N F=>by grind⟩
                | some x' =>
                  obtain⟨e,e1,Z⟩:=K j A g;obtain⟨g1,g2⟩:=sj Z;have hql:q<e.length:=by have:=(List.getElem?_eq_some_iff.1 S).1;omega
                  obtain⟨y',y1,y2⟩:=g2 q _ (getElem?_eq_getElem hql);rw[S] at y1;cases y1;obtain⟨v,v1,_,v2⟩:=hw.cell D C e1 (getElem?_eq_getElem hql);have W:j<m:=by have:=(List.getElem?_eq_some_iff.1 g).1;omega
                  obtain⟨ha,_⟩:=U aa;refine⟨v,fun e'' x N F=>?_⟩
                  cases N;rw[S] at F;cases F;refine⟨?_,T _ v _ v2 y2⟩;rw[ha,add_plain,<-v1]
                  grind
             have := Rel.ak (c := ⟨fun _ => none, I⟩) (w := w) (sz := sz) (es := r) (cap := cap) (a := a) (fun j q => (M j q).choose) aa ?_ (fun j A g=>by
              obtain⟨e,e1,Z⟩:=K j A g;rw [(sj Z).1]; grind) (fun j q W hq=>by
              have g:=getElem?_eq_getElem W;obtain⟨e,e1,Z⟩:=K j _ g;have R:=(sj Z).1;rw[hsz _ e e1] at R;exact((M j q).choose_spec _ _ g (getElem?_eq_getElem aa)).1) (fun j q A x g S=>((M j q).choose_spec A x g S).2)
             . grind
             . intro hpos
               obtain⟨ha,_⟩:=U aa;rw[ha];exact hO _ ⟨k,_,B,D,C,rfl⟩
   | fT C=>simp[snap] at h
   | @cY _ _ k B C =>
     simp only[snap] at h;cases D:H.get k with
     | none=>grind
     | some o =>
       cases o with
       | dG _ _=>grind
       | lp _ _ _ _ _=>grind
       | arr _ _=>grind
       | cm _ _=>grind
       | mp Q =>
         rw[D] at h;dsimp only at h;cases d:aM (gh (snap H n)) Q with
         | none=>grind
         | some r =>
           rw[d] at h;simp only[Option.some.injEq] at h;subst h;obtain⟨B',hB',hBi,_,mes,clock,O,a2,a3,f,a4,a5,a6⟩:=hw.obj k _ D;rw[C] at hB';cases hB';have K:=Iq d;have hkeys:r.map (·.1)=Q.map (·.1):=Ip d;refine .cK f (hO _ ⟨k,_,B,D,C,rfl⟩) O a2 (by unfold cu at a3 ⊢;grind) (fun j y W=>?_) (fun e g=>?_) (fun j y W=>?_)
           . grind
           . grind
           . obtain ⟨x, N, F⟩ := K.1 j y W
             exact T x _ y (a6 j x N) F
   | @fn _ _ f xs ys vs us N F hr1 hr2 =>
     simp only[snap] at h;cases hm1:aM (snap H n) xs with
     | none=>grind
     | some xs' =>
       cases hm2:aM (snap H n) ys with
       | none=>grind
       | some ys' =>
         rw[hm1,hm2] at h;simp only[Option.some.injEq] at h;subst h;have O:=nJ hm1 ⟨N,hr1⟩ T;have a2:=nJ hm2 ⟨F,hr2⟩ T;exact Rel.fn f O.1 a2.1 O.2 a2.2
   | @cG _ _ t y u hy =>
     simp only[snap] at h;cases d:snap H n y with
     | none=>grind
     | some z =>
       rw[d] at h;simp only[Option.some.injEq] at h;subst h;exact .cG t (T _ _ _ hy d)
   | @agg _ _ cs vs R J =>
     simp only[snap] at h;cases d:aM (snap H n) cs with
     | none=>grind
     | some cs' =>
       rw[d] at h;simp only[Option.some.injEq] at h;subst h;have O:=nJ d ⟨R,J⟩ T;exact Rel.agg O.1 O.2
   | @ao _ _ cs vs R J =>
     simp only[snap] at h;cases d:aM (snap H n) cs with
     | none=>grind
     | some cs' =>
       rw[d] at h;simp only[Option.some.injEq] at h;subst h;have O:=nJ d ⟨R,J⟩ T;exact Rel.ao O.1 O.2
   | any v=>simp only[snap,Option.some.injEq] at h;subst h;exact .any v
   | bool b=>simp only[snap,Option.some.injEq] at h;subst h;exact .bool b
   | int k b=>simp only[snap,Option.some.injEq] at h;subst h;exact .int k b
   | str l=>simp only[snap,Option.some.injEq] at h;subst h;exact .str l
   | dF=>simp only[snap,Option.some.injEq] at h;subst h;exact .dF
   | bq hi R hc J=>simp only[snap,Option.some.injEq] at h;subst h;exact .bq (V _ hi) R hc (fun i x v e A=>(J i x v e A).mono ⟨fun _ _ h=>(by cases h),V⟩ (fun _ _=>rfl))
   | ah=>simp only[snap,Option.some.injEq] at h;subst h;exact .ah
   | cW a=>simp only[snap,Option.some.injEq] at h;subst h;exact .cW a
   | ak vs X hi R hc J=>simp only[snap,Option.some.injEq] at h;subst h;exact .ak vs X (fun h=>V _ (hi h)) R hc (fun i j e x N F=>(J i j e x N F).mono ⟨fun _ _ h=>(by cases h),V⟩ (fun _ _=>rfl))
   | fk sz=>simp only[snap,Option.some.injEq] at h;subst h;exact .fk sz
   | iB=>simp only[snap,Option.some.injEq] at h;subst h;exact .iB
   | fO=>simp only[snap,Option.some.injEq] at h;subst h;exact .fO
   | cK f hi d hb hs C g J=>simp only[snap,Option.some.injEq] at h;subst h;exact .cK f (V _ hi) d hb hs C g (fun k x e=>(J k x e).mono ⟨fun _ _ h=>(by cases h),V⟩ (fun _ _=>rfl))
   | cZ=>simp only[snap,Option.some.injEq] at h;subst h;exact .cZ
   | eH=>simp only[snap,Option.some.injEq] at h;subst h;exact .eH
end
end Go.Ago
end
