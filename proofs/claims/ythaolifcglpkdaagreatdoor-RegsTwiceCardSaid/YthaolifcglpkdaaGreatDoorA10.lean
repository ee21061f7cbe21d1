/-
  Part A10: lemmas, each with its own conditions.
-/
import Derived.Deep.LoopGhost
import Derived.Orders
import Derived.Test.YthaolifcglpkdaaGreatDoorA09
set_option maxRecDepth 100000
set_option maxHeartbeats 0
set_option linter.all false
section
namespace Go.Ago
open List Nat
def qk:List AV->Nat->Tr AV->Tr AV
 | [],_,t=>t
 | x::l,i,t=>qk l (i+1) (t.set 24 i (some x))
def St.init (args:List AV)(n:Nat)(H:ai)(nx:Nat):St:={ bo:=qk args 0 .nil,bF:=args.length+(n - args.length),heap:=H,next:=nx }
def oW (E:Env)(S:St):ResultVar->Option AV
 | .tmp t => some (match S.bo.get t with
   | some x=>x
   | none => .any)
 | .cell a t => match S.bo.get a with
   | some p => match (yG E t p).run S.heap with
     | some (.inl ⟨v,[]⟩)=>some v
     | _=>none
   | none=>none
def ij (E:Env)(a:Func)(S:St):Option AV:=
 match aM (oW E S) a.results.toList with
 | some [x]=>some x
 | some l=>some (.ao l)
 | none=>none
def je (E:Env)(a:Func)(Q:AE->Prop):AX->St->Prop
 | .normal, S | .ret, S => match ij E a S with
   | some x => match snap S.heap 20 x with
     | some y=>Q (.ret y)
     | none=>False
   | none=>False
 | .aR v, S => match snap S.heap 20 v with
   | some y=>Q (.aR y)
   | none=>False
 | _,_=>False
def sL (E:Env)(a:Func)(R:AE->ai->Nat->Prop):AX->St->Prop
 | .normal, S | .ret, S => match ij E a S with
   | some x=>R (.ret x) S.heap S.next
   | none=>False
 | .aR v,S=>R (.aR v) S.heap S.next
 | _,_=>False
section
variable {P:Program} {E:Env} {c:Ctx} {S:St} {a:Act} {w:World} {H:ai}
theorem G9:∀(l:List AV) (i:Nat) (t:Tr AV) (j:Nat),i+l.length<2 ^ 20->(qk l i t).get j=if i≤j∧j<i+l.length then l[j - i]? else t.get j
 | [],i,t,j,_=>by simp only[qk];grind
 | x :: l, i, t, j, h => by
   simp_all
   simp only[qk];rw[G9 l _ _ j aa,Tr.eP 24 i _ _ j aa]
   grind
theorem c_.init {args:List AV}{vs:List Value}{n nx:Nat}(d:aQ c w args vs)(j:aN E.bR c w H)(h:∀k,nx≤k->c.f k=none)(l:args.length<2 ^ 20) :
 c_ P E c (St.init args n H nx) { tmps:=vs.toArray++Array.replicate (n - vs.toArray.size) undef,defers:=[] } w:=by
 refine⟨by simp[St.init,d.1],fun t x e=>?_,trivial,j,h⟩
 simp only[St.init] at e;rw[G9 args 0 .nil t aa] at e
 by_cases b:0≤t∧t<0+args.length
 . rw [if_pos b] at e
   obtain⟨v,m,g⟩:=d.get (i:=t) (by simpa using e)
   grind
 . rw[if_neg b] at e;cases e
def yo (b:Array Value):ResultVar->Sem Value
 | .tmp t=>pure (b.getD t undef)
 | .cell a t=>do loadVar t (<-asAddr (b.getD a undef))
theorem Xq (l:bW P E)(j:c_ P E c S a w){r:ResultVar}{x:AV}(h:oW E S r=some x) :
 ∃v,(yo a.tmps r).run P w = .ok v w∧Rel c w x v:=by
 cases r with
 | tmp t =>
   simp only[oW,Option.some.injEq] at h;subst h;exact⟨_,rfl,j.ev (.tmp t)⟩
 | cell g t =>
   simp only[oW] at h;cases e:S.bo.get g with
   | none=>grind
   | some p =>
     rw[e] at h;dsimp only at h;obtain⟨u,n,d⟩:=j.bo g p e;have m:a.tmps.getD g undef=u:=by simp[Array.getD_eq_getD_getElem?,n]
     split at h
     . rename_i v b
       simp only[Option.some.injEq] at h;subst h;obtain⟨y,o,q,A,s⟩:=Ih l j.bu d b;cases q;have i:∃f,u = .pointer (some f):=by
        cases d<;>first|exact⟨_,rfl⟩|exact(aE b).elim
       obtain⟨f,rfl⟩:=i;refine⟨o,?_,s⟩;simp only[yo,m]
       assumption
     grind
theorem Ij (e:bW P E)(f:c_ P E c S a w):∀(l:List ResultVar) (xs:List AV),aM (oW E S) l=some xs->
 ∃vs,(l.mapM (yo a.tmps)).run P w = .ok vs w∧aQ c w xs vs
 | [],xs,h=>by simp[aM,Option.some.injEq] at h;subst h;exact⟨[],rfl,.nil⟩
 | r :: l, xs, h => by
   simp[aM] at h;cases g:oW E S r with
   | none=>grind
   | some x =>
     cases k:aM (oW E S) l with
     | none=>grind
     | some m =>
       simp_all
       subst h;obtain⟨v,n,i⟩:=Xq e f g;obtain⟨vs,j,d⟩:=Ij e f l _ k;refine⟨v::vs,?_,.cons i d⟩
       simp_all
theorem yn (m:bW P E)(o:c_ P E c S a w){e:Func}{x:AV}(h:ij E e S=some x):∃v,(results e a.tmps).run P w = .ok v w∧Rel c w x v:=by
 unfold ij at h;cases k:aM (oW E S) e.results.toList with
 | none=>grind
 | some n =>
   rw[k] at h;obtain⟨d,l,b⟩:=Ij m o _ _ k;have f:(results e a.tmps).run P w = .ok (if h:d.toArray.size=1 then d.toArray[0] else .tuple d.toArray) w:=by
    have g : results e a.tmps = (do
     let d <-e.results.mapM (yo a.tmps)
     pure (if h:d.size=1 then d[0] else .tuple d)):=rfl
    rw[g,Sem.run_bind,Array.mapM_eq_mapM_toList];simp only[Sem.run_map,l,Result.andThen_ok];rfl
   rw[f];refine⟨_,rfl,?_⟩
   match n,h,b with
   | [y], h, b =>
     simp only[Option.some.injEq] at h;subst h;obtain⟨v,r,rfl,q,i⟩:=b.dT;obtain rfl:=i.fY;exact q
   | [], h, b =>
     simp only[Option.some.injEq] at h;subst h;obtain rfl:=b.fY;exact Rel.ao b.1 b.2
   | y :: z :: s, h, b =>
     simp only[Option.some.injEq] at h;subst h;have p:d.toArray.size≠1:=by have:=b.1;simp at this ⊢;omega
     rw[dif_neg p];exact Rel.ao b.1 b.2
theorem iP.mem {hi D:Nat}:∀{hi:Nat} {f:List Deferred},iP c w hi f->({ target := .collected D,args:=#[] }:Deferred)∈f->¬c.au D∧w.heap[D]? = some (.deferred (some []))
 | _, d :: f, ⟨h, l, i, j, k, g⟩, b => by
   rcases mem_cons.1 b with e|b
   . grind
   exact iP.mem (hi:=hi) g b
theorem qm {F:Fence}{n:Nat}{j:Func}{f:Array Value}{R:Ending->World->Prop}{u:FrameMode}(m:u≠.run):∀{i:List Deferred} {hi:Nat} {w:World},iP c w hi i->
 (∀w':World,w'.heap.size=w.heap.size->w'.os=w.os->w'.tape=w.tape->w'.output=w.output->(∀b,(∀D,({ target := .collected D,args:=#[] }:Deferred)∈i->b≠D)->w'.heap[b]? = w.heap[b]?)->LeavesIn F n P j f R [] u w')->
 LeavesInM F n P j f R i u w
 | [],_,w,_,h=>h w rfl rfl rfl rfl (fun _ _=>rfl)
 | d :: i, _, w, ⟨D, o, A, B, v, p⟩, h => by
   refine⟨m,.inl ⟨D,w.putObj D (.deferred none),by rw[o],run_takeDeferred v,qm m (hi:=D) ?_ fun w' z s t x r=>h w' ?_ s t x fun b l=>?_⟩⟩
   . exact p.mono (Nat.le_refl _) fun k g y q=>⟨y,(World.putObj_heap_other aa).trans q⟩
   . simp_all
   . rw [r b fun k g => l k (mem_cons_of_mem _ g)]
     exact World.putObj_heap_other (l D aY)
theorem c_.shut (h:c_ P E c S a w){w':World}(n:w'.heap.size=w.heap.size)(i:∀b,(∀D,({ target := .collected D,args:=#[] }:Deferred)∈a.defers->b≠D)->w'.heap[b]? = w.heap[b]?) :
 c_ P E c S { a with defers:=[] } w'∧∀{x v},Rel c w x v->Rel c w' x v:=by
 have f:=fun b j=>i b fun D m e=>(h.defers.mem (hi:=0) m).1 (e ▸ j)
 have d:∀{x v},Rel c w x v->Rel c _ x v:=fun q=>q.mono (.refl c) f
 refine⟨⟨h.size,fun t x e=>by obtain⟨v,l,p⟩:=h.bo t x e;grind,trivial,⟨fun b j=>by rw[n];exact h.bu.bH b j,fun k B e=>by rw[n];exact h.bu.bX k B e,fun k o e=>?_,h.bu.inj,fun g u e=>d (h.bu.bR g _ e)⟩,h.fresh⟩,d⟩
 obtain⟨B,l,p,s⟩:=h.bu.obj k o e;exact⟨B,l,p,s.mono (i _ fun D m r=>h.bu.xC (h.defers.mem (hi:=0) m).2 ⟨k,o,B,e,l,r⟩) d (fun b i=>⟨i,f b i⟩)⟩
theorem ExtM.shut {m:Nat}{c':Ctx}{w' d:World}{H':ai}{i:Act}{r:Array Value}(h:ExtM m c w H c' w' H')(k:Gd w { tmps:=r,defers:=[] } i)(l:d.heap.size=w'.heap.size)(n:d.os=w'.os)(o:d.tape=w'.tape)(j:d.output=w'.output)
 (q:∀b,(∀D,({ target := .collected D,args:=#[] }:Deferred)∈i.defers->b≠D)->d.heap[b]? = w'.heap[b]?):ExtM m c w H c' d H':=by
 refine⟨h.f,h.au,n.trans h.os,o.trans h.tape,j.trans h.output,by rw[l];exact h.size,fun b g p=>(q b fun D t e=>?_).trans (h.other b g p),h.eG,h.own⟩
 obtain⟨u,v,s⟩:=k
 grind
theorem PC.CC {f:FuncId}{K:Func}{code:Code}{args:List AV}{Q:AE->Prop}(hE:bW P E)(hf:P.funcs[f]? = some K)(d:K.body=some code)(hn:K.name ≠ "runtime.NumGoroutine")
 (hl:args.length<2 ^ 20)(h:SW P E false code (je E K Q) (St.init args K.ntmps .nil 0)):PC P E f args Q:=by
 refine⟨⟨K,hf,by grind,hn⟩,fun c w vs hc hw hr=>?_⟩
 refine callsIn_wide.1 (callsIn_of_wp_marks (F:=Fence.wide) (n:=0) hf d trivial (wpIn_mono (h none (fun _=>rfl) 0 (Nat.le_refl _) c _ w (c_.init hr hw (fun k _=>hc k) hl)) ?_))
 rintro e a' w1 ⟨A,J,ax,j,h2,z,O,u⟩
 have N:=j.gd
 replace j:=j.toExtM
 have l:∀b,¬Own c (.nil:ai) b:=by rintro b ⟨k,o,B,Z,_⟩;cases Z
 
 let I:Nat->Prop:=fun b=>A.au b∨Own A J.heap b
 have C:∀s,ExtM 0 c w .nil A s J.heap->aN E.bR A s J.heap->∀x v,Rel A s x v->∀y,snap J.heap 20 x=some y->Ext c w .nil ⟨fun _=>none,I⟩ s .nil∧aN E.bR ⟨fun _=>none,I⟩ s .nil∧Rel ⟨fun _=>none,I⟩ s y v:=by
  intro s j D x v hr y hy;have hown:∀b,Own A J.heap b->w.heap.size≤b:=fun b d=>(j.own b d).resolve_left (l b)
  refine⟨⟨⟨fun k p e=>aY,fun b d => .inl (j.au b d)⟩,j.os,j.tape,j.output,j.size,fun b d _=>j.other b d (l b),fun b d=>?_,fun b d=>(l b (by obtain⟨k,o,B,Z,_⟩:=d;cases Z)).elim⟩,?_,kR D (fun b d => .inl d) (fun b d => .inr d) 20 hr hy⟩
  . rcases d with d | d
    . rcases j.eG b d with g | g | g
      . grind
      . grind
      omega
    grind
  . refine ⟨fun b d => ?_, fun k B e => (by cases e), fun k o e => (by cases e), fun k k' o o' B B' e => (by cases e), fun g cs e => ?_⟩
    . rcases d with d | ⟨k, o, B, Z, hf', rfl⟩
      . exact D.bH b d
      . exact D.bX k B hf'
    . have := D.bR g cs e
      exact kR D (I:=I) (fun b d => .inl d) (fun b d => .inr d) 1 this rfl
 cases ax with
 | normal =>
   cases e<;>first|exact O.elim|skip
   simp only[je] at u;cases m:ij E K J with
   | none=>grind
   | some x =>
     rw[m] at u;dsimp only at u;cases r:snap J.heap 20 x with
     | none=>grind
     | some y =>
       rw[r] at u;refine qm ag z.defers fun s M R V T L=>?_
       replace j:=j.shut N M R V T L
       have q:=z.shut M L;have t:∀{x v},Rel A w1 x v->Rel A s x v:=q.2
       replace z:=q.1
       obtain⟨v,hv,G⟩:=yn hE z m;obtain⟨U,W,X⟩:=C s j z.bu x v G y r;exact⟨v,hv,_,.ret y,U,fun _=>rfl,W,X,u⟩
 | ret =>
   cases e<;>first|exact O.elim|skip
   simp only[je] at u;cases m:ij E K J with
   | none=>grind
   | some x =>
     rw[m] at u;dsimp only at u;cases r:snap J.heap 20 x with
     | none=>grind
     | some y =>
       rw[r] at u;refine qm ag z.defers fun s M R V T L=>?_
       replace j:=j.shut N M R V T L
       have q:=z.shut M L;have t:∀{x v},Rel A w1 x v->Rel A s x v:=q.2
       replace z:=q.1
       obtain⟨v,hv,G⟩:=yn hE z m;obtain⟨U,W,X⟩:=C s j z.bu x v G y r;exact⟨v,hv,_,.ret y,U,fun _=>rfl,W,X,u⟩
 | aR x =>
   cases e<;>first|exact O.elim|skip
   obtain⟨v,rfl,G⟩:=O;simp only[je] at u;cases r:snap J.heap 20 x with
   | none=>grind
   | some y =>
     rw[r] at u;refine qm ag z.defers fun s M R V T L=>?_
     replace j:=j.shut N M R V T L
     have q:=z.shut M L;have t:∀{x v},Rel A w1 x v->Rel A s x v:=q.2
     replace z:=q.1
     obtain⟨U,W,X⟩:=C s j z.bu x v (t G) y r;exact⟨_,.aR y,U,fun _=>rfl,W,⟨v,rfl,X⟩,u⟩
 | exit i=>cases e<;>first|exact O.elim|exact u.elim
 | goto i=>cases e<;>first|exact O.elim|exact u.elim
theorem AC.CC {f:FuncId}{p:Func}{code:Code}{args:List AV}{nx:Nat}{R:AE->ai->Nat->Prop}(K:bW P E)(J:P.funcs[f]? = some p)(W:p.body=some code)(O:p.name ≠ "runtime.NumGoroutine")
 (Q:args.length<2 ^ 20)(h:SW P E false code (sL E p R) (St.init args p.ntmps H nx)):AC P E f args H nx R:=by
 refine⟨⟨p,J,by grind,O⟩,fun c w Z N U T=>?_⟩
 refine callsIn_wide.1 (callsIn_of_wp_marks (F:=Fence.wide) (n:=0) J W trivial (wpIn_mono (h none (fun _=>rfl) nx (Nat.le_refl _) c _ w (c_.init T N U Q)) ?_))
 rintro e a' I ⟨o,r,X,k,D,d,u,m⟩
 have t:=k.gd
 replace k:=k.toExtM
 cases X with
 | normal =>
   cases e<;>first|exact u.elim|skip
   simp only[sL] at m;cases g:ij E p r with
   | none=>grind
   | some x =>
     rw[g] at m;refine qm ag d.defers fun z s B y A q=>?_
     replace k:=k.shut t s B y A q
     have b:=d.shut s q;have j:∀{x v},Rel o I x v->Rel o z x v:=b.2
     replace d:=b.1
     obtain⟨v,G,l⟩:=yn K d g;exact⟨v,G,o,r.heap,r.next,.ret x,k,d.bu,D,d.fresh,l,m⟩
 | ret =>
   cases e<;>first|exact u.elim|skip
   simp only[sL] at m;cases g:ij E p r with
   | none=>grind
   | some x =>
     rw[g] at m;refine qm ag d.defers fun z s B y A q=>?_
     replace k:=k.shut t s B y A q
     have b:=d.shut s q;have j:∀{x v},Rel o I x v->Rel o z x v:=b.2
     replace d:=b.1
     obtain⟨v,G,l⟩:=yn K d g;exact⟨v,G,o,r.heap,r.next,.ret x,k,d.bu,D,d.fresh,l,m⟩
 | aR x =>
   cases e<;>first|exact u.elim|skip
   obtain⟨v,rfl,l⟩:=u;refine qm ag d.defers fun z s B y A q=>?_
   replace k:=k.shut t s B y A q
   have b:=d.shut s q;have j:∀{x v},Rel o I x v->Rel o z x v:=b.2
   replace d:=b.1
   exact⟨o,r.heap,r.next,.aR x,k,d.bu,D,d.fresh,⟨v,rfl,j l⟩,m⟩
 | exit i=>cases e<;>first|exact u.elim|exact m.elim
 | goto i=>cases e<;>first|exact u.elim|exact m.elim
end
end Go.Ago
end
section
namespace Go.Ago
open List Nat
def nf:AV->Bool
 | .any | .bool _ | .int _ _ | .str _ | .dF | .ah | .cW | .fO | .cZ | .eH=>true
 | _=>false
def l_:AV->Bool
 | .agg a=>a.all nf
 | .cG _ v=>nf v
 | v=>nf v
def hY:AV->Bool
 | .ak _ _ | .bq _ | .cK _=>true
 | v=>l_ v
def AV.flat:AV->Bool
 | .ao a=>a.all l_
 | v=>l_ v
def AE.flat:AE->Bool
 | .ret v | .aR v=>v.flat
section
variable {P:Program} {E:Env} {G:eZ} {c c':Ctx} {w w':World} {H:ai}
theorem GL {x:AV}{v:Value}(h:Rel c w x v)(a:nf x=true):Rel c' w' x v:=by
 cases h<;>simp[nf] at *<;>constructor
theorem GM {f:AV->Bool}{xs:List AV}{vs:List Value}(b:∀x v,Rel c w x v->f x=true->Rel c' w' x v)(h:aQ c w xs vs)(d:xs.all f=true):aQ c' w' xs vs:=
 ⟨h.1,fun i x v e a=>b x v (h.2 i x v e a) (all_eq_true.1 d x (mem_of_getElem? e))⟩
theorem Bj {x:AV}{v:Value}(h:Rel c w x v)(e:l_ x=true):Rel c' w' x v:=by
 cases h with
 | @agg _ _ C D y z =>
   have:=GM (c':=c') (w':=w') (fun _ _=>GL) ⟨y,z⟩ e
   exact .agg this.1 this.2
 | cG t A=>exact .cG t (GL A e)
 | any v=>exact .any v
 | bool b=>exact .bool b
 | int k n=>exact .int k n
 | str l=>exact .str l
 | dF=>exact .dF
 | ah=>exact .ah
 | cW a=>exact .cW a
 | iB=>exact .iB
 | fO=>exact .fO
 | cZ=>exact .cZ
 | eH=>exact .eH
 | _=>simp[l_,nf] at e
theorem wV {x:AV}{v:Value}(hi:c'.au=c.au)(h:Rel c w x v)(B:hY x=true):Rel c' w x v:=by
 have A:c'.bare=c.bare:=by unfold Ctx.bare;rw[hi]
 by_cases l:(∃s a,x = .ak s a)∨(∃n,x = .bq n)∨∃a,x = .cK a
 . rcases l with ⟨s, a, rfl⟩ | ⟨n, rfl⟩ | ⟨a, rfl⟩
   . cases h with
     | ak u m d b g o=>exact .ak u m aY b g (fun i j e x D F=>by grind)
     | fk=>exact .fk s
   . cases h with
     | bq m d b g=>exact .bq aY d b (fun i x v e C=>by grind)
   . cases h with
     | cK f m d b g o y z=>exact .cK f aY d b g o y (fun k x e=>by grind)
 . have : hY x = l_ x := by cases x <;> first | rfl | exact absurd (.inl ⟨_, _, rfl⟩) l | exact absurd (.inr (.inl ⟨_, rfl⟩)) l | grind
   exact Bj h aY
theorem GN {x:AV}{v:Value}(h:Rel c w x v)(d:x.flat=true):Rel c' w' x v:=by
 by_cases e:∃b,x = .ao b
 . obtain ⟨b, rfl⟩ := e
   cases h with
   | @ao _ _ _ j g i =>
     have:=GM (c':=c') (w':=w') (fun _ _=>Bj) ⟨g,i⟩ d
     exact .ao this.1 this.2
 . have : x.flat = l_ x := by cases x <;> first | rfl | grind
   exact Bj h aY
theorem wX {a:AE}{e:Ending}(h:lS c w a e)(b:a.flat=true):lS c' w' a e:=by
 cases a with
 | ret x=>cases e<;>first|exact h.elim|exact GN h b
 | aR x =>
   cases e<;>first|exact h.elim|skip
   obtain⟨v,i,d⟩:=h;exact⟨v,i,GN d b⟩
theorem aN.same (h:aN G c w H){I:Nat->Prop}(l:∀b,c.au b->I b)(d:∀b,I b->b<w'.heap.size)(i:∀b,b<w.heap.size->I b->c.au b)(n:w.heap.size≤w'.heap.size)(j:∀b,b<w.heap.size->w'.heap[b]? = w.heap[b]?) :
 aN G ⟨c.f,I⟩ w' H∧∀{x v},Rel c w x v->Rel ⟨c.f,I⟩ w' x v:=by
 have a:∀{x v},Rel c w x v->Rel ⟨c.f,I⟩ _ x v:=fun p=>p.mono ⟨fun _ _ e=>e,l⟩ (fun b e=>j b (h.bH b e))
 refine⟨⟨d,fun k B e=>Nat.lt_of_lt_of_le (h.bX k B e) n,fun k o e=>?_,h.inj,fun g t e=>a (h.bR g _ e)⟩,a⟩
 obtain⟨B,m,q,s⟩:=h.obj k o e;have d:=h.bX k B m;exact⟨B,m,fun r=>q (i _ d r),s.mono (j _ d) a (fun b e=>⟨l b e,j b (h.bH b e)⟩)⟩
theorem lJ {b:Nat}:¬Own c (.nil:ai) b:=by rintro⟨k,o,B,a,_⟩;cases a
theorem aN.Sj (h:aN G c w H):aN G ⟨fun _=>none,fun b=>c.au b∨Own c H b⟩ w .nil:=by
 refine⟨fun b a=>?_,fun k B e=>(by cases e),fun k o e=>(by cases e),fun k f o i B j e=>(by cases e),fun g l e=>?_⟩
 . rcases a with a | ⟨k, o, B, m, d, rfl⟩
   . exact h.bH b a
   exact h.bX k B d
 exact kR h (fun b a => .inl a) (fun b a => .inr a) 1 (h.bR g _ e) rfl
theorem AC.flat {g:FuncId}{args args':List AV}{nx:Nat}{Q:AE->Prop}{R:AE->ai->Nat->Prop}(l:aM (snap H 20) args=some args')(h:PC P E g args' Q)(o:∀f,Q f->f.flat=true∧R f H nx) :
 AC P E g args H nx R:=by
 refine⟨h.1,fun c w u i p n=>?_⟩
 have j:=nJ (c':=⟨fun _=>none,fun b=>c.au b∨Own c H b⟩) l n (fun x v y=>kR i (fun b a => .inl a) (fun b a => .inr a) _)
 refine(h.2 _ w _ (ag) i.Sj j).mono ?_
 rintro e z ⟨C,f,d,A,B,q,m⟩
 obtain⟨s,r⟩:=o _ m;have a:=fun b a=>d.other b a lJ
 obtain⟨t,D⟩:=i.same (ag) (fun b a=>Nat.lt_of_lt_of_le (i.bH b a) d.size) (ag) d.size a
 exact⟨c,H,nx,f,⟨fun _ _=>rfl,fun _ h=>h,d.os,d.tape,d.output,d.size,fun b k _=>a b k,fun b a => .inl a,fun b a => .inl a⟩,t,Nat.le_refl _,p,wX q s,r⟩
theorem aN.empty (h:aN G c w H):aN G c.bare w .nil:=by
 refine⟨h.bH,fun k B e=>(by cases e),fun k o e=>(by cases e),fun k n o p B l e=>(by cases e),fun g m e=>?_⟩
 have:=h.bR g _ e;cases this with
 | bq i f j d=>exact .bq i f j d
theorem aN.Ct (h:aN G c w H):aN G c w .nil:=
 ⟨h.bH,h.bX,fun k o e=>(by cases e),fun k b o d B a e=>(by cases e),h.bR⟩
theorem AC.pure {g:FuncId}{args args':List AV}{nx:Nat}{Q:AE->Prop}{R:AE->ai->Nat->Prop}(D:aM (snap .nil 20) args=some args')(h:PC P E g args' Q)(t:∀i,Q i->R i H nx) :
 AC P E g args H nx R:=by
 refine⟨h.1,fun c w K r z B=>?_⟩
 have o:=nJ (c':=c.bare) D B (fun x v y=>kR r.Ct (fun b a=>a) (fun b a=>(lJ a).elim) 20)
 refine(h.2 c.bare w K (fun _=>rfl) r.empty o).mono ?_
 rintro e L ⟨j,i,d,O,A,n,C⟩
 have a:=fun b a=>d.other b a lJ
 have l:∀b,j.au b->c.au b∨w.heap.size≤b:=fun b a=>by
  rcases d.eG b a with g|g|g
  . exact .inl g
  . exact(lJ g).elim
  omega
 obtain⟨F,S⟩:=r.same (I:=j.au) (w':=L) (fun b a=>d.le.au b a) (fun b a=>A.bH b a) (fun b a u=>(l b u).resolve_right aa) d.size a
 have m:j.le ⟨c.f,j.au⟩:=⟨fun k p e=>aY,fun _ h=>h⟩
 refine⟨⟨c.f,j.au⟩,H,nx,i,⟨fun _ _=>rfl,fun b a=>d.le.au b a,d.os,d.tape,d.output,d.size,fun b q _=>a b q,fun b a=>?_,fun b a => .inl a⟩,F,Nat.le_refl _,z,?_,t i C⟩
 . grind
 . cases i with
   | ret x=>cases e<;>first|exact n.elim|exact Rel.mono n m (fun _ _=>rfl)
   | aR x =>
     cases e<;>first|exact n.elim|skip
     obtain⟨v,N,s⟩:=n;exact⟨v,N,s.mono m (fun _ _=>rfl)⟩
variable {rr:Bool}
def Wk (P:Program)(E:Env)(S S':St):Prop:=
 ∀c a w,c_ P E c S a w->∃d,(∀k,k<S'.next->d.f k=c.f k)∧(∀b,c.au b->d.au b)∧(∀b,d.au b->c.au b∨Own c S.heap b)∧(∀b,Own d S'.heap b->Own c S.heap b)∧c_ P E d S' a w
theorem Wk.refl (S:St):Wk P E S S:=fun c a w h=>⟨c,fun _ _=>rfl,fun _ h=>h,fun _ h => .inl h,fun _ h=>h,h⟩
theorem SW.wk {code:Code}{K:AX->St->Prop}{S S':St}(i:Wk P E S S')(f:S.next≤S'.next)(h:SW P E rr code K S'):SW P E rr code K S:=by
 intro r j m l c a w n;obtain⟨I,p,q,s,t,u⟩:=i c a w n;refine wpIn_mono (h r j m (Nat.le_trans l f) _ a w u) ?_
 rintro e J F ⟨y,o,z,g,x,v,C,B⟩
 have D:ExtM m c w _ _ w _:=⟨fun k L=>p k aa,q,rfl,rfl,rfl,Nat.le_refl _,fun _ _ _=>rfl,fun b d=>(s b d).imp id .inl,fun b d => .inl (t b d)⟩
 exact⟨y,o,z,⟨D.trans g.toExtM,g.gd⟩,Nat.le_trans f x,v,C,B⟩
theorem wpIn_loop_ghost {F:Fence}{n:Nat}{Q:Exit->Act->World->Prop}{a:Act}{w:World}{b:Code}(I:Nat->Act->World->Prop)(q:Nat)(h0:I q a w)
 (d:∀m a w,I m a w->b.wpIn F n P (Exit.then (fun p w'=>∃i,i<m∧I i p w') Q) a w):(Code.loop b).wpIn F n P Q a w:=by
 refine wpIn_loop (fun a w=>∃n,I n a w) (fun a w=>leastOf (fun n=>I n a w)) ⟨q,h0⟩ ?_
 intro a w s;refine wpIn_mono (d _ a w (leastOf_spec s).1) ?_;intro e p w' h;cases e with
 | normal =>
   obtain⟨i,k,f⟩:=h;exact⟨⟨i,f⟩,Nat.lt_of_le_of_lt ((leastOf_spec ⟨i,f⟩).2 _ f) k⟩
 | exit id=>exact h
 | goto l=>exact h
 | ret=>exact h
 | panic u=>exact h
 | outgrown=>exact h
theorem SW.loop {α:Type}(L:α->St)(A:α->Nat){o:Code}{K:AX->St->Prop}{S:St}(T:α)(h0:Wk P E S (L T))(J:∀x,S.next≤(L x).next)
 (h : ∀ x, SW P E rr o (fun e S'=>match e with
   | .normal=>∃B,Wk P E S' (L B)∧A B<A x
   | e=>K e S') (L x)):SW P E rr (.loop o) K S:=by
 intro r hr m hm c a w hs;have f:∀{s:Ctx} {C:St} {q:Act} {p:World} {x:α},ek m c a w S.heap s q p C.heap->c_ P E s C q p->Wk P E C (L x)->∃g,ek m c a w S.heap g q p (L x).heap∧c_ P E g (L x) q p:=by
  intro s C q p x N y O;obtain⟨g,I,M,e3,e4,Y⟩:=O s q p y;have Z:=J x;exact⟨g,N.jg ⟨fun k hk=>I k aa,M,rfl,rfl,rfl,Nat.le_refl _,fun _ _ _=>rfl,fun b Q=>(e3 b Q).imp id .inl,fun b Q => .inl (e4 b Q)⟩ rfl,Y⟩
 refine wpIn_loop_ghost (fun n V R=>∃x g,A x=n∧ek m c a w S.heap g V R (L x).heap∧c_ P E g (L x) V R) (A T) ?_ ?_
 . obtain ⟨g, y, h2⟩ := f (ek.refl m c a w _) hs h0
   grind
 . rintro n q p ⟨x, s, rfl, N, y⟩
   refine wpIn_mono (h x r hr m (Nat.le_trans hm (J x)) s q p y) ?_
   rintro e a2 w2 ⟨D,z,ax,g1,g2,u,j,t⟩
   have d:=N.trans g1;have l:=Nat.le_trans (J x) g2;cases ax with
   | normal =>
     cases e<;>first|exact j.elim|skip
     obtain⟨B,k1,k2⟩:=t;obtain⟨g,I,M⟩:=f d u k1;exact⟨_,k2,B,g,rfl,I,M⟩
   | exit i=>cases e<;>first|exact j.elim|exact⟨D,z,_,d,l,u,j,t⟩
   | goto i=>cases e<;>first|exact j.elim|exact⟨D,z,_,d,l,u,j,t⟩
   | ret=>cases e<;>first|exact j.elim|exact⟨D,z,_,d,l,u,j,t⟩
   | aR v=>cases e<;>first|exact j.elim|exact⟨D,z,_,d,l,u,j,t⟩
end
end Go.Ago
end
namespace Go.Ago
open List Nat
def Rd.rds (H:ai):Rd->List Nat
 | .rd k f => match H.get k with
   | some o=>k::(f o).rds H
   | none=>[k]
 | .bZ b r => match b with
   | true=>r.rds H
   | false=>[]
 | .br b r s => match b with
   | true=>r.rds H
   | false=>s.rds H
 | .opt o f => match o with
   | some e=>(f e).rds H
   | none=>[]
 | _=>[]
theorem Rd.sQ {H H':ai}:∀{r:Rd},(∀k∈r.rds H,H'.get k=H.get k)->r.run H'=r.run H
 | .ret _,_=>rfl
 | .aR _,_=>rfl
 | .fail,_=>rfl
 | .rd k f, h => by
   simp[rds] at h;simp[run];cases e:H.get k with
   | none=>grind
   | some o =>
     rw[e] at h;rw[h k ag,e];exact sQ fun j g=>h j aY
 | .bZ b r, h => by
   cases b with
   | true=>exact sQ (r:=r) h
   | false=>rfl
 | .br b r s, h => by
   cases b with
   | true=>exact sQ (r:=r) h
   | false=>exact sQ (r:=s) h
 | .opt o f, h => by
   cases o with
   | some e=>exact sQ (r:=f e) h
   | none=>rfl
theorem Rd.sK {H H':ai}:∀{r:Rd},(∀k∈r.rds H,H'.get k=H.get k)->r.rds H'=r.rds H
 | .ret _,_=>rfl
 | .aR _,_=>rfl
 | .fail,_=>rfl
 | .rd k f, h => by
   simp[rds] at *;cases e:H.get k with
   | none=>grind
   | some o =>
     rw[e] at h;rw[h k ag,e]
     dsimp
     rw[sK fun j d=>h j aY]
 | .bZ b r, h => by
   cases b with
   | true=>exact sK (r:=r) h
   | false=>rfl
 | .br b r s, h => by
   cases b with
   | true=>exact sK (r:=r) h
   | false=>exact sK (r:=s) h
 | .opt o f, h => by
   cases o with
   | some e=>exact sK (r:=f e) h
   | none=>rfl
def Rd.gP (H:ai)(K:bk->List Nat->Prop):Rd->List Nat->Prop
 | .ret e,l=>K e l
 | .aR _,_=>False
 | .rd k f, l => match H.get k with
   | some o=>(f o).gP H K (k::l)
   | none=>False
 | .bZ b r,l=>b=true∧r.gP H K l
 | .br b r s,l=>(b=true->r.gP H K l)∧(b=false->s.gP H K l)
 | .opt o f,l=>∃e,o=some e∧(f e).gP H K l
 | .fail,_=>False
theorem Rd.rZ {H:ai}{K:bk->List Nat->Prop}:∀{r:Rd} {l:List Nat},r.gP H K l->∃e l',r.run H=some (.inl e)∧(∀k∈r.rds H,k∈l')∧(∀k∈l,k∈l')∧K e l'
 | .ret e,l,h=>⟨e,l,rfl,by simp[rds],fun _ h=>h,h⟩
 | .aR _,_,h=>h.elim
 | .rd k f, l, h => by
   simp[gP] at h;simp[run,rds];cases e:H.get k with
   | none=>grind
   | some o =>
     rw[e] at h;obtain⟨i,l',j,m,n,p⟩:=rZ h
     grind
 | .bZ b r, l, h => by
   obtain⟨rfl,h⟩:=h;exact rZ (r:=r) h
 | .br b r s, l, h => by
   cases b with
   | true=>exact rZ (r:=r) (h.1 rfl)
   | false=>exact rZ (r:=s) (h.2 rfl)
 | .opt o f, l, h => by
   obtain⟨e,rfl,h⟩:=h;exact rZ (r:=f e) h
 | .fail,_,h=>h.elim
def cC (H:ai):Nat->AV->List Nat
 | 0,_=>[]
 | n + 1, v => match v with
   | .ptr k i d => k :: match H.get k with
     | some (.arr _ b) => match b[i]? with
       | some e=>(e.drop d).flatMap (cC H n)
       | none=>[]
     | _=>[]
   | .az k i c _ => k :: match H.get k with
     | some (.arr _ b)=>((b.drop i).take c).flatMap fun e=>e.flatMap (cC H n)
     | _=>[]
   | .cY k => k :: match H.get k with
     | some (.mp b)=>b.flatMap fun p=>cC H n p.2
     | _=>[]
   | .fn _ g h=>g.flatMap (cC H n)++h.flatMap (cC H n)
   | .cG _ v=>cC H n v
   | .agg f | .ao f=>f.flatMap (cC H n)
   | _=>[]
theorem uL {α b:Type}{f g:α->Option b}:∀{l:List α},(∀x∈l,f x=g x)->aM f l=aM g l
 | [],_=>rfl
 | x :: l, h => by
   simp[aM];rw[h x ag,uL fun y c=>h y aY]
theorem KY {H H':ai}:∀(n:Nat) {x:AV},(∀k∈cC H n x,H'.get k=H.get k)->snap H' n x=snap H n x
 | 0,_,_=>rfl
 | n + 1, x, h => by
   have w:∀x,(∀k∈cC H n x,H'.get k=H.get k)->snap H' n x=snap H n x:=fun x h=>KY n h
   have b:∀l:List AV,(∀k∈l.flatMap (cC H n),H'.get k=H.get k)->aM (snap H' n) l=aM (snap H n) l:=fun l h=>
    uL fun x z=>w x fun k B=>h k (mem_flatMap.2 ⟨x,z,B⟩)
   cases x with
   | ptr k i L =>
     simp only[cC] at h;simp only[snap];rw[h k ag];cases e:H.get k with
     | none=>rfl
     | some o =>
       cases o with
       | dG _ _=>rfl
       | lp _ _ _ _ _=>rfl
       | mp _=>rfl
       | cm _ _=>rfl
       | arr A c =>
         grind
   | az k i m A =>
     simp only[cC] at h;simp only[snap];rw[h k ag];cases e:H.get k with
     | none=>rfl
     | some o =>
       cases o with
       | dG _ _=>rfl
       | lp _ _ _ _ _=>rfl
       | mp _=>rfl
       | cm _ _=>rfl
       | arr E c =>
         rw[e] at h;dsimp only;have:aM (aM (snap H' n)) ((c.drop i).take m)=aM (aM (snap H n)) ((c.drop i).take m):=
          uL fun F I => b F fun j M => h j (by
           grind)
         grind
   | cY k =>
     simp only[cC] at h;simp only[snap];rw[h k ag];cases e:H.get k with
     | none=>rfl
     | some o =>
       cases o with
       | dG _ _=>rfl
       | lp _ _ _ _ _=>rfl
       | arr _ _=>rfl
       | cm _ _=>rfl
       | mp c =>
         rw[e] at h;dsimp only;have:aM (gh (snap H' n)) c=aM (gh (snap H n)) c:=
          uL fun p O=>by unfold gh;grind
         grind
   | fn f Q N =>
     simp only[cC] at h;simp only[snap]
     grind
   | cG t v=>simp only[snap];rw[w v h]
   | agg r=>simp only[snap];rw[b r h]
   | ao r=>simp only[snap];rw[b r h]
   | _=>rfl
theorem wW {α b:Type}{f g:α->List b}:∀{l:List α},(∀x∈l,f x=g x)->l.flatMap f=l.flatMap g
 | [],_=>rfl
 | x :: l, h => by
   rw[flatMap_cons,flatMap_cons,h x ag,wW fun y c=>h y aY]
theorem yM {H H':ai}:∀(n:Nat) {x:AV},(∀k∈cC H n x,H'.get k=H.get k)->cC H' n x=cC H n x
 | 0,_,_=>rfl
 | n + 1, x, h => by
   have m:∀l:List AV,(∀k∈l.flatMap (cC H n),H'.get k=H.get k)->l.flatMap (cC H' n)=l.flatMap (cC H n):=fun l h=>
    wW fun x s=>yM n fun k r=>h k (mem_flatMap.2 ⟨x,s,r⟩)
   cases x with
   | ptr k i w =>
     simp only[cC] at h ⊢
     grind
   | az k i b L =>
     simp only[cC] at h ⊢;rw[h k ag];cases e:H.get k with
     | none=>rfl
     | some o =>
       cases o with
       | dG _ _=>rfl
       | lp _ _ _ _ _=>rfl
       | mp _=>rfl
       | cm _ _=>rfl
       | arr C c =>
         rw[e] at h;dsimp only;have:(((c.drop i).take b).flatMap fun e=>e.flatMap (cC H' n))=((c.drop i).take b).flatMap fun e=>e.flatMap (cC H n):=
          wW fun F u => m F fun j G => h j (by
           grind)
         grind
   | cY k =>
     simp only[cC] at h ⊢;rw[h k ag];cases e:H.get k with
     | none=>rfl
     | some o =>
       cases o with
       | dG _ _=>rfl
       | lp _ _ _ _ _=>rfl
       | arr _ _=>rfl
       | cm _ _=>rfl
       | mp c =>
         rw[e] at h;dsimp only at h ⊢;have:(c.flatMap fun p=>cC H' n p.2)=c.flatMap fun p=>cC H n p.2:=
          wW fun p N=>yM n fun j G=>h j aY
         grind
   | fn f P M =>
     simp only[cC] at h ⊢
     grind
   | cG t v=>simp only[cC] at h ⊢;exact yM n h
   | agg K=>simp only[cC] at h ⊢;grind
   | ao K=>simp only[cC] at h ⊢;grind
   | _=>rfl
def js:List Oper->List Nat->List Nat
 | [],a=>a
 | o::l,a=>js l (a++[o.after.toList.foldl (fun s e=>bif Region.binds .any e then s ||| 2 ^ e.on ||| a.getD e.on 0 else s) 0])
inductive Reach (ops:Array Oper):Nat->Nat->Prop where
 | one {i:Nat} {o:Oper} {e:Edge} (ho:ops[i]? = some o) (he:e∈o.after) (hb:Region.binds .any e=true):Reach ops i e.on
 | more {i j:Nat} {o:Oper} {e:Edge} (ho:ops[i]? = some o) (he:e∈o.after) (hb:Region.binds .any e=true) (h:Reach ops e.on j):Reach ops i j
theorem ES {ops:Array Oper}:∀(l:List Oper) (acc:List Nat),ops.toList=ops.toList.take acc.length++l->(∀(i:Nat) b,acc[i]? = some b->∀j,b.testBit j=true->Reach ops i j)->
 ∀(i:Nat) b,(js l acc)[i]? = some b->∀j,b.testBit j=true->Reach ops i j
 | [],acc,_,h=>h
 | o :: l, acc, d, h => by
   have r:acc.length<ops.size:=by
    have:=congrArg length d;simp at this;omega
   have u:ops[acc.length]? = some o:=by
    have q:ops.toList[acc.length]? = some o:=by
     rw[d,getElem?_append_right aY];simp;rw[show acc.length - min acc.length ops.size=0 by omega]
     rfl
    simpa using q
   refine ES l _ ?_ ?_
   . grind
   . intro i b g j a
     by_cases E:i<acc.length
     . grind
     . rw [getElem?_append_right aa] at g
       have p:i=acc.length:=by
        rcases Nat.lt_or_ge (i - acc.length) 1 with q|q
        . omega
        . grind
       subst p;simp only[Nat.sub_self,getElem?_cons_zero,Option.some.injEq] at g;subst g;have x:∀(k:List Edge) (s:Nat),(∀e∈k,e∈o.after)->(∀j,s.testBit j=true->Reach ops acc.length j)->
        ∀j,(k.foldl (fun s e=>bif Region.binds .any e then s ||| 2 ^ e.on ||| acc.getD e.on 0 else s) s).testBit j=true->Reach ops acc.length j:=by
        intro k
        induction k with
        | nil=>simp
        | cons e k y =>
          intro s n D j a;refine y _ (fun B A=>n B aY) (fun j a=>?_) j a
          dsimp only at a;cases g:Region.binds .any e with
          | false=>grind
          | true =>
            rw[g] at a;simp only[cond_true,testBit_or,Bool.or_eq_true,testBit_two_pow,decide_eq_true_eq] at a;have m:=n e ag;rcases a with(a|a)|a
            . grind
            . subst a;exact .one u m g
            . cases w : acc[e.on]? with
              | none=>grind
              | some C =>
                rw[getD_eq_getElem?_getD,w] at a;exact .more u m g (h e.on C w j a)
       grind
def comp (a:List Nat)(i j:Nat):Bool:=(a.getD i 0).testBit j || (a.getD j 0).testBit i
theorem AN {ops:Array Oper}{i j:Nat}(h:comp (js ops.toList []) i j=true):Reach ops i j∨Reach ops j i:=by
 have a:=ES (ops:=ops) ops.toList [] ag (ag);simp[comp] at h
 grind
def om:List Oper->Nat->Bool
 | [],_=>true
 | o::l,i=>o.after.toList.all (fun e=>!Region.binds .any e || blt e.on i) && om l (i+1)
def yQ (ops:Array Oper)(a:List Nat):Bool:=
 (List.range ops.size).all fun i=>(List.range ops.size).all fun j=>i == j || comp a i j ||
  (match ops[i]?, ops[j]? with
   | some x, some y => match x.dst with
     | some d=>!(Oper.looksAt ops y).contains d && y.dst != some d
     | none=>true
   | _,_=>true)
end Go.Ago
section
namespace Go.Ago
open List Nat
structure DE where
 val:AV
 up:List (Nat×Option an)
 rds:List Nat
def DE.keys (d:DE):List Nat:=d.up.map (·.1)
section order
variable {V:Type}
def gR (wv:Nat->Option V)(D:Nat->Bool):Nat->V->V
 | 0,v=>v
 | n+1,v=>if D n then (match wv n with|some x=>x|none=>gR wv D n v) else gR wv D n v
theorem uK {wv:Nat->Option V}{D D':Nat->Bool}:∀(n:Nat) (v:V),(∀j,j<n->wv j≠none->D j=D' j)->gR wv D n v=gR wv D' n v
 | 0,_,_=>rfl
 | n + 1, v, h => by
   simp[gR];rw[uK n v fun j b=>h j aa]
   grind
theorem uJ {wv:Nat->Option V}{D:Nat->Bool}{i:Nat}:∀(n:Nat) (v:V),i<n->(∀j,i<j->j<n->D j=true->wv j≠none->wv i=none)->
 gR wv (fun j=>j == i || D j) n v=match wv i with|some x=>x|none=>gR wv D n v
 | 0,_,h,_=>aa
 | n + 1, v, h, d => by
   by_cases f:i=n
   . simp only [gR, if_true]
     have:gR wv (fun j=>j == i || D j) i v=gR _ D i v:=uK i v fun j g _=>by
      have:(j == i)=false:=by grind
      grind
     grind
   . have b : i < n := aa
     have k:=uJ n v b fun j e l=>d j e aa
     have c:=aa;simp only[gR,c]
     grind
theorem HW {wv:Nat->Option V}{D:Nat->Bool}{i:Nat}(n:Nat)(v:V)(hi:D i=false)(h:∀j,j<n->j≠i->wv j≠none->D j=blt j i):gR wv D n v=gR wv (fun j=>blt j i) n v:=
 uK n v fun j b c=>by
  by_cases e:j=i
  . cases a:blt j j<;>simp_all
  grind
end order
def oS (ops:Array Oper)(a:List DE)(t:Nat)(i:Nat):Option (Option AV):=
 match ops[i]?,a[i]? with
 | some o,some d=>if o.dst=some t then some (some d.val) else none
 | _,_=>none
def o7:List (Nat×Option an)->Nat->Option (Option an)
 | [],_=>none
 | (j, o) :: l, k => match o7 l k with
   | some x=>some x
   | none=>if j=k then some o else none
def mq (a:List DE)(k:Nat)(i:Nat):Option (Option an):=
 match a[i]? with
 | some d=>o7 d.up k
 | none=>none
theorem D3:∀(l:List (Nat×Option an)) (H:ai) (k:Nat),(∀p∈l,p.1+1<2 ^ 24)->(bk.dH H l).get k=match o7 l k with|some o=>o|none=>H.get k
 | [],H,k,_=>rfl
 | (j, o) :: l, H, k, h => by
   simp[bk.dH,o7];rw[D3 l _ k fun p b=>h p aY]
   cases o7 l k with
   | some x=>rfl
   | none =>
     rw[Tr.eP _ j o H k (h (j,o) ag)]
     grind
theorem y7:∀{l:List (Nat×Option an)} {k:Nat},o7 l k≠none->k∈l.map (·.1)
 | [],k,h=>absurd rfl h
 | (j, o) :: l, k, h => by
   simp[o7] at h;cases e:o7 l k with
   | some x=>exact mem_cons_of_mem _ (y7 aY)
   | none =>
     grind
structure At (ops:Array Oper)(ds:List DE)(S0:St)(D:Nat->Bool)(S:St):Prop where
 bF:S.bF=S0.bF
 next:S.next=S0.next
 bo:∀t,S.bo.get t=gR (oS ops ds t) D ops.size (S0.bo.get t)
 heap:∀k,S.heap.get k=gR (mq ds k) D ops.size (S0.heap.get k)
theorem B_ {V:Type}{wv:Nat->Option V}:∀(n:Nat) (v:V),gR wv (fun _=>false) n v=v
 | 0,_=>rfl
 | n+1,v=>B_ n v
theorem At.start (ops:Array Oper)(a:List DE)(S0:St):At ops a S0 (fun _=>false) S0:=⟨rfl,rfl,fun _=>(B_ _ _).symm,fun _=>(B_ _ _).symm⟩
def St.app (S:St)(o:Oper)(d:DE):St:=S.put o.dst d.val (bk.dH S.heap d.up) S.next
theorem EJ {S:St}{o:Oper}{d:DE}(b:cv S o.dst=true)(t:Nat):(S.app o d).bo.get t=if o.dst=some t then some d.val else S.bo.get t:=by
 unfold St.app St.put;cases h:o.dst with
 | none=>simp
 | some e =>
   rw[h] at b;simp only[cv,Bool.and_eq_true] at *;have a:e+1<2 ^ 24:=Nat.lt_of_lt_of_le (ag) (Nat.le_trans (le_of_ble_eq_true b.2) ab);rw[Tr.eP _ e _ _ t a]
   grind
structure zL (ops:Array Oper)(ds:List DE):Prop where
 len:ds.length=ops.size
 small:∀(i:Nat) d,ds[i]? = some d->∀p∈d.up,p.1+1<2 ^ 24
 slot:∀(i j:Nat) x y t,ops[i]? = some x->ops[j]? = some y->i≠j->x.dst=some t->(t∈Oper.looksAt ops y∨y.dst=some t)->Reach ops i j∨Reach ops j i
 mem:∀(i j:Nat) d e k,ds[i]? = some d->ds[j]? = some e->i≠j->k∈d.keys->(k∈e.rds∨k∈e.keys)->Reach ops i j∨Reach ops j i
 back:∀i j,Reach ops i j->j<i
def zJ (ops:Array Oper)(D:Nat->Bool):Prop:=∀i j,Reach ops i j->D i=true->D j=true
section
variable {ops:Array Oper} {ds:List DE} {S0 S:St} {D:Nat->Bool} {i:Nat} {o:Oper} {d:DE}
theorem At.step (w:zL ops ds)(z:zJ ops D)(v:At ops ds S0 D S)(hi:D i=false)(u:ops[i]? = some o)(g:ds[i]? = some d)(l:cv S o.dst=true) :
 At ops ds S0 (fun j=>j == i || D j) (S.app o d):=by
 have m:i<ops.size:=(Array.getElem?_eq_some_iff.1 u).1;have r:∀j,i<j->D j=true->¬(Reach ops i j∨Reach ops j i):=by
  intro j s a h;rcases h with h|h
  . have:=w.back i j h;omega
  . have:=z j i h a;grind
 refine⟨v.bF,v.next,fun t=>?_,fun k=>?_⟩
 . rw [EJ l, uJ ops.size _ m, <-v.bo t]
   . simp only [oS, u, g]
     grind
   . intro j s n a p
     cases f:oS ops ds t i with
     | none=>rfl
     | some x =>
       exfalso
       simp only[oS,u,g] at f;have B:o.dst=some t:=by
        by_cases e:o.dst=some t
        . exact e
        . grind
       have q:ops[j]? = some ops[j]:=Array.getElem?_eq_getElem n;have A:ops[j].dst=some t:=by
        simp only[oS,q] at p;cases b:ds[j]? with
        | none=>grind
        | some y =>
          grind
       exact r j s a (w.slot i j o _ t u q aa B (.inr A))
 . show (bk.dH S.heap d.up).get k = _
   rw[D3 _ _ _ (w.small i d g),uJ ops.size _ m,<-v.heap k]
   . simp only [mq, g]
     grind
   . intro j s n a p
     cases f:mq ds k i with
     | none=>rfl
     | some x =>
       exfalso
       simp only[mq,g] at f;cases b:ds[j]? with
       | none=>simp only[mq,b] at p;grind
       | some y =>
         simp only[mq,b] at p;exact r j s a (w.mem i j d y k g b aa (y7 aY) (.inr (y7 p)))
theorem At.agree {q:St}(l:zL ops ds)(u:zJ ops D)(r:At ops ds S0 D S)(hi:D i=false)(s:∀j,Reach ops i j->D j=true)(B:ops[i]? = some o)(E:ds[i]? = some d)
 (f:At ops ds S0 (fun j=>blt j i) q):(∀t∈Oper.looksAt ops o,S.bo.get t=q.bo.get t)∧(∀k∈d.rds,S.heap.get k=q.heap.get k):=by
 have b:∀j,j≠i→(Reach ops j i∨Reach ops i j)->D j=blt j i:=by
  intro j p h;rcases h with h|h
  . have n := l.back j i h
    have A:blt j i=false:=by
     cases v:blt j i with
     | false=>rfl
     | true => have := by simpa using v
               omega
    rw[A];cases w:D j with
    | false=>rfl
    | true=>have:=u j i h w;grind
  have n:=l.back i j h
  simp_all
 refine⟨fun t x=>?_,fun k y=>?_⟩
 . rw [r.bo t, f.bo t]
   refine HW _ _ hi fun j p a e=>b j a ?_
   have g:=Array.getElem?_eq_getElem p;have C:ops[j].dst=some t:=by
    simp[oS,g] at e
    grind
   exact l.slot j i _ o t g B a C (.inl x)
 rw[r.heap k,f.heap k];refine HW ops.size _ hi fun j p a e=>b j a ?_
 cases c:ds[j]? with
 | none=>simp only[mq,c] at e;grind
 | some z =>
   simp only[mq,c] at e;exact l.mem j i z d k c E a (y7 e) (.inl y)
theorem At.congr {D':Nat->Bool}(a:At ops ds S0 D S)(h:∀j,j<ops.size->D j=D' j):At ops ds S0 D' S:=
 ⟨a.bF,a.next,fun t=>(a.bo t).trans (uK _ _ fun j b _=>h j b),fun k=>(a.heap k).trans (uK _ _ fun j b _=>h j b)⟩
end
end Go.Ago
end
section
namespace Go.Ago
open List Nat
section
variable {P:Program} {E:Env} {G:eZ} {c c1:Ctx} {w w':World} {H H1:ai}
def vE (x:AV):Prop:=∀(c a:Ctx) (w:World) (v:Value),a.au=c.au->Rel c w x v->Rel a w x v
def vA:an->Prop
 | .arr _ a=>∀(i:Nat) e,a[i]? = some e->∀(j:Nat) x,e[j]? = some x->hY x=true
 | .mp a=>∀p∈a,vE p.2
 | _=>False
theorem vA.rel {c c':Ctx}{w:World}{B:fp}{o:an}(d:vA o)(hi:c'.au=c.au)(h:fH c w B o):fH c' w B o:=by
 cases o with
 | arr O z =>
   obtain⟨arr,t,l,m,n,p,g⟩:=h;refine⟨arr,t,l,m,n,p,fun i e r=>⟨(g i e r).1,fun j x u=>?_⟩⟩
   obtain⟨v,I,M⟩:=(g i e r).2 j x u;exact⟨v,I,wV hi M (d i e r j x u)⟩
 | mp z =>
   obtain⟨F,q,a,l,m,n,f,p,g,J⟩:=h;exact⟨F,q,a,l,m,n,f,p,g,fun k x e=>d _ e c _ w _ hi (J k x e)⟩
 | dG s D=>exact d.elim
 | lp R y Q L A=>exact d.elim
 | cm C z=>exact d.elim
theorem aN.EB (q:aN G c w H){nm K0:Nat}{ob:an}(W:c.f nm=none)(s:nm+1<2 ^ 24)(n:ExtM 0 c.bare w .nil c1 w' H1)(J:aN G c1 w' H1)(C:H1.get K0=some ob)(I:vA ob) :
 ∃c' B,c1.f K0=some B∧c'.f nm=some B∧(∀k,k≠nm->c'.f k=c.f k)∧(∀m,m≤nm->ExtM m c w H c' w' (H.set 24 nm (some ob)))∧aN G c' w' (H.set 24 nm (some ob)):=by
 obtain⟨B,D,K,M⟩:=J.obj K0 _ C;have S:w.heap.size≤B.b:=by
  rcases n.own B.b ⟨K0,_,B,C,D,rfl⟩ with g|g
  . exact(lJ g).elim
  . exact g
 have j:∀b,b<w.heap.size->w'.heap[b]? = w.heap[b]?:=fun b j=>n.other b j lJ
 have Q:∀b,c1.au b->c.au b∨w.heap.size≤b:=fun b j=>by
  rcases n.eG b j with g|g|g
  . exact .inl g
  . exact(lJ g).elim
  omega
 let c':Ctx:=⟨fun k=>if k=nm then some B else c.f k,c1.au⟩
 have F:c.le c':=⟨fun k p e=>by
  grind,fun b j=>n.au b j⟩
 have r:∀{x v},Rel c w x v->Rel c' w' x v:=fun Z=>Z.mono F (fun b e=>j b (q.bH b e))
 have h:c'.f nm=some B:=if_pos rfl;have d:∀k,k≠nm->c'.f k=c.f k:=fun k C=>if_neg C
 have l:∀k,(H.set 24 nm (some ob)).get k=if k=nm then some ob else H.get k:=fun k=>Tr.eP 24 nm _ H k s
 refine⟨c',B,D,h,d,fun m hm=>⟨fun k C=>d k aa,fun b j=>n.au b j,n.os,n.tape,n.output,n.size,fun b t _=>j b t,fun b U=>?_,?_⟩,⟨J.bH,fun k y e=>?_,fun k o e=>?_,fun k A o V R O e L f u X=>?_,fun g Y e=>r (q.bR g Y e)⟩⟩
 . grind
 . rintro b ⟨k, o, y, e, f, rfl⟩
   by_cases a:k=nm
   . grind
   . rw[l,if_neg a] at e;rw[d k a] at f;exact .inl ⟨k,o,y,e,f,rfl⟩
 . by_cases a : k = nm
   . subst a;rw[h] at e;cases e;exact J.bX K0 B D
   . rw[d k a] at e;exact Nat.lt_of_lt_of_le (q.bX k y e) n.size
 . rw [l] at e
   by_cases a:k=nm
   . subst a
     rw[if_pos rfl] at e;cases e;exact⟨B,h,K,I.rel (c:=c1) (c':=c') rfl M⟩
   . rw [if_neg a] at e
     obtain⟨y,T,g2,g3⟩:=q.obj k o e;have t:=q.bX k y T;exact⟨y,(d k a).trans T,fun hi=>by
      grind,g3.mono (j _ t) r (fun b e=>⟨n.au b e,j b (q.bH b e)⟩)⟩
 . rw [l] at e L
   by_cases a:k=nm<;>by_cases i:A=nm
   . omega
   . subst a;rw[h] at f;cases f;rw[d A i] at u;have:=q.bX A O u;omega
   . subst i;rw[h] at u;cases u;rw[d k a] at f;have:=q.bX k R f;omega
   . rw [if_neg a] at e; rw [if_neg i] at L; rw [d k a] at f; rw [d A i] at u
     exact q.inj k A o V R O e L f u X
end
end Go.Ago
end
