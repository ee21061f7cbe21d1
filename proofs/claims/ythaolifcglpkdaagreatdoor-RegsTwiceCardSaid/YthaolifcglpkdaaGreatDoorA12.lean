/-
  Part A12: lemmas, each with its own conditions.
-/
import Derived.Test.YthaolifcglpkdaaGreatDoorA11
set_option maxRecDepth 100000
set_option maxHeartbeats 0
set_option linter.all false
section
namespace Go.Ago
open List Nat
section
variable {P:Program} {E:Env} {rr:Bool}
theorem AC.mono {g:FuncId}{args:List AV}{H:ai}{nx:Nat}{R R':AE->ai->Nat->Prop}(h:AC P E g args H nx R)(e:∀a H nx,R a H nx->R' a H nx):AC P E g args H nx R':=
 ⟨h.1,fun c w r f i j=>(h.2 c w _ f i j).mono fun _ _ ⟨k,l,b,a,n,o,m,p,q,d⟩=>⟨k,l,b,a,n,o,m,p,q,e _ _ _ d⟩⟩
theorem AY.mono {k:Nat}{args:List AV}{H:ai}{nx:Nat}{R R':AE->ai->Nat->Prop}(h:AY P E k args H nx R)(j:∀a H nx,R a H nx->R' a H nx):AY P E k args H nx R':=by
 intro c w x f g i;obtain⟨B,b,l,m,n,o⟩:=h c w _ f g i;exact⟨B,b,l,m,n,o.mono fun _ _ ⟨p,q,d,a,s,t,r,u,v,e⟩=>⟨p,q,d,a,s,t,r,u,v,j _ _ _ e⟩⟩
theorem Rd.kc {H:ai}{K K':bk->Prop}{Kp Kp':AV->Prop}(d:∀e,K e->K' e)(c:∀v,Kp v->Kp' v):∀{r:Rd},r.holds H K Kp->r.holds H K' Kp'
 | .ret e,h=>d e h
 | .aR v,h=>c v h
 | .rd k f, h => by
   simp[holds] at *;cases e:H.get k with
   | none=>grind
   | some o=>rw[e] at h;exact kc d c h
 | .bZ b r,h=>⟨h.1,kc d c h.2⟩
 | .br b r s,h=>⟨fun e=>kc d c (h.1 e),fun e=>kc d c (h.2 e)⟩
 | .opt o f, h => by
   obtain⟨x,i,h⟩:=h;exact⟨x,i,kc d c h⟩
 | .fail,h=>h.elim
theorem EG {nm:Nat}{o:Oper}{S:St}{b a:St->Prop}{K K':AX->St->Prop}(d:∀s,b s->a s)(f:∀e s,K e s->K' e s)(h:ln P E nm o S b K):ln P E nm o S a K':=by
 obtain⟨g,h⟩:=h;refine⟨g,?_⟩;split at h
 . unfold pI at *
   split at h
   . refine AC.mono h fun i H j c => ?_
     grind
   . refine AY.mono h fun i H j c => ?_
     grind
   omega
 exact Rd.kc (fun _ h=>d _ h) (fun _ h=>f _ _ h) h
theorem vT {ops:List Oper}{d:Nat}{K K':AX->St->Prop}(f:∀e s,K e s->K' e s):∀(c:List Oper) {i:Nat} {S:St},jC P E ops d K c i S->jC P E ops d K' c i S
 | [],i,S,h=>f _ _ h
 | o :: c, i, S, h => by
   simp[jC,gate] at *;cases k:o.guard with
   | none=>rw[k] at h;exact EG (fun _ h=>vT f _ h) f h
   | some p =>
     obtain⟨j,l⟩:=p;rw[k] at h
     dsimp at *
     cases m:gO _ S j _ with
     | none=>grind
     | some b =>
       rw[m] at h;exact⟨fun g=>EG (fun _ h=>vT f _ h) f (h.1 g),fun g=>⟨(h.2 g).1,vT f _ (h.2 g).2⟩⟩
theorem iU:∀(code:Code) {K K':AX->St->Prop} {S:St},(∀e s,K e s->K' e s)->aw P E rr code K S->aw P E rr code K' S
 | .skip,K,K',S,b,h=>b _ _ h
 | .label _,K,K',S,b,h=>b _ _ h
 | .exit i,K,K',S,b,h=>b _ _ h
 | .goto l,K,K',S,b,h=>b _ _ h
 | .ret,K,K',S,b,h=>b _ _ h
 | .region _ _ false,K,K',S,b,h=>vT b _ h
 | .region _ _ true,K,K',S,b,h=>SW.mono h b
 | .seq x y, K, K', S, b, h => iU x (fun e s f=>by
  cases e<;>first|exact iU y b f|grind) h
 | .cond x t e, K, K', S, b, h => by
   simp[aw] at *;cases g:S.ev E x<;>rw[g] at h<;>first|omega|skip
   exact⟨fun d=>iU t b (h.1 d),fun d=>iU e b (h.2 d)⟩
 | .block _ c, K, K', S, b, h => iU c (fun e s f=>by
  grind) h
 | .loop _,K,K',S,b,h=>SW.mono h b
 | .rangeFunc ..,K,K',S,b,h=>SW.mono h b
 | .scope _,K,K',S,b,h=>SW.mono h b
 | .refuse _,K,K',S,b,h=>SW.mono h b
end
def DC (P:Program)(E:Env)(g:FuncId)(args:List AV)(H:ai)(nx:Nat)(R:AE->ai->Nat->Prop):Prop:=
 ∃c d b,AC P E g args H nx (fun a h n=>a=c∧h=d∧n=b)∧R c d b
def DP (P:Program)(E:Env)(g:FuncId)(args:List AV)(Q:AE->Prop):Prop:=∃a,PC P E g args (·=a)∧Q a
def DY (P:Program)(E:Env)(k:Nat)(args:List AV)(H:ai)(nx:Nat)(R:AE->ai->Nat->Prop):Prop:=
 ∃c d b,AY P E k args H nx (fun a h n=>a=c∧h=d∧n=b)∧R c d b
def DW (P:Program)(E:Env)(e:Bool)(nx:Nat)(code:Code)(K:AX->Nat->St->Prop)(S:St):Prop:=
 ∃d b c,SW P E e code (fun a s=>a=d∧s=c.at_ b) (S.at_ nx)∧K d b c
def pU (P:Program)(E:Env)(nx:Nat)(f:AV)(args:List AV)(S:St)(d:Option Tmp)(b:Nat->St->Prop)(K:AX->Nat->St->Prop):Prop:=
 match f with
 | .fn (.func g) c h => DC P E g (c ++ args ++ h) S.heap nx fun i e a => match i with
   | .ret v=>b a (S.put d v e 0)
   | .aR v=>K (.aR v) a (S.put none .any e 0)
 | .fT k => DY P E k args S.heap nx fun i e a => match i with
   | .ret v=>b a (S.put d v e 0)
   | .aR v=>K (.aR v) a (S.put none .any e 0)
 | _=>False
def pV (P:Program)(E:Env)(nm nx:Nat)(o:Oper)(S:St)(a:Nat->St->Prop)(K:AX->Nat->St->Prop):Prop:=
 cv S o.dst=true∧match o.op with
  | .call { callee := .value f,args,.. }=>pU P E nx (S.ev E f) (args.toList.map (S.ev E)) S o.dst a K
  | d=>(cc E nm (S.ev E) d).holds S.heap (fun b=>a nx (S.put o.dst b.val (bk.dH S.heap b.up) 0)) (fun v=>K (.aR v) nx S)
def jt (P:Program)(E:Env)(ops:List Oper)(a:Nat)(K:AX->Nat->St->Prop):List Oper->Nat->Nat->St->Prop
 | [],_,d,S=>K .normal d S
 | o::c,i,d,S=>gate ops S o.guard (pV P E (a+i) d o S (jt P E ops a K c (i+1)) K) (cv S o.dst=true∧jt P E ops a K c (i+1) d (S.put o.dst (.ao []) S.heap 0))
def oi (P:Program)(E:Env)(h:Bool):Code->(AX->Nat->St->Prop)->Nat->St->Prop
 | .skip,K,c,S=>K .normal c S
 | .label _,K,c,S=>K .normal c S
 | .exit i,K,c,S=>K (.exit i) c S
 | .goto l,K,c,S=>K (.goto l) c S
 | .ret,K,c,S=>K .ret c S
 | .region _ g false,K,c,S=>jt P E g.toList c K g.toList 0 (c+g.size) S
 | .seq a b,K,c,S=>oi P E h a (fun e d k=>match e with | .normal=>oi P E h b K d k|e=>K e d k) c S
 | .cond x t e, K, c, S => match S.ev E x with
   | .bool b=>(b=true->oi P E h t K c S)∧(b=false->oi P E h e K c S)
   | _=>False
 | .block id n, K, c, S => oi P E h n (fun e d k => match e with
   | .exit j=>(j=id->K .normal d k)∧(j≠id->K (.exit j) d k)
   | e=>K e d k) c S
 | m,K,c,S=>DW P E h c m K S
section
variable {P:Program} {E:Env} {rr:Bool}
theorem Rd.holds_one {H:ai}{K:bk->Prop}{Kp:AV->Prop}:∀{r:Rd},r.holds H K Kp->(∃e,K e∧r.holds H (·=e) (fun _=>False))∨(∃v,Kp v∧r.holds H (fun _=>False) (·=v))
 | .ret e,h => .inl ⟨e,h,rfl⟩
 | .aR v,h => .inr ⟨v,h,rfl⟩
 | .rd k f, h => by
   simp[holds] at *;cases e:H.get k with
   | none=>grind
   | some o=>rw[e] at h;exact holds_one h
 | .bZ b r, h => by
   obtain⟨rfl,h⟩:=h;rcases holds_one h with⟨e,d,c⟩|⟨e,d,c⟩
   . exact .inl ⟨e,d,rfl,c⟩
   exact .inr ⟨e,d,rfl,c⟩
 | .br b r s, h => by
   cases b with
   | true =>
     rcases holds_one (h.1 rfl) with⟨e,d,c⟩|⟨e,d,c⟩
     . exact .inl ⟨e,d,fun _=>c,fun h=>by cases h⟩
     exact .inr ⟨e,d,fun _=>c,fun h=>by cases h⟩
   | false =>
     rcases holds_one (h.2 rfl) with⟨e,d,c⟩|⟨e,d,c⟩
     . exact .inl ⟨e,d,(fun h=>by cases h),fun _=>c⟩
     exact .inr ⟨e,d,(fun h=>by cases h),fun _=>c⟩
 | .opt o f, h => by
   obtain⟨x,rfl,h⟩:=h;rcases holds_one h with⟨e,d,c⟩|⟨e,d,c⟩
   . exact .inl ⟨e,d,x,rfl,c⟩
   exact .inr ⟨e,d,x,rfl,c⟩
 | .fail,h=>h.elim
abbrev po (b:AX)(nx:Nat)(S:St):AX->St->Prop:=fun a s=>a=b∧s=S.at_ nx
theorem QI {nm nx:Nat}{o:Oper}{S:St}{d:Nat->St->Prop}{K:AX->Nat->St->Prop}(h:pV P E nm nx o S d K) :
 (∃a S',d a S'∧∀(N:St->Prop) (Q:AX->St->Prop),N (S'.at_ a)->ln P E nm o (S.at_ nx) N Q)∨(∃v a S',K (.aR v) a S'∧∀(N:St->Prop) (Q:AX->St->Prop),Q (.aR v) (S'.at_ a)->ln P E nm o (S.at_ nx) N Q):=by
 obtain⟨y,h⟩:=h;have s:∀t,o.op=t->(cc E nm (S.ev E) t).holds S.heap (fun b=>d nx (S.put o.dst b.val (bk.dH S.heap b.up) 0)) (fun v=>K (.aR v) nx S)->
  (∃a S',d a S'∧∀(N:St->Prop) (Q:AX->St->Prop),N (S'.at_ a)->(cc E nm (S.ev E) t).holds S.heap (fun b=>N ((S.at_ nx).put o.dst b.val (bk.dH S.heap b.up) nx)) (fun v=>Q (.aR v) (S.at_ nx))) ∨
  (∃v a S',K (.aR v) a S'∧∀(N:St->Prop) (Q:AX->St->Prop),Q (.aR v) (S'.at_ a)->(cc E nm (S.ev E) t).holds S.heap (fun b=>N ((S.at_ nx).put o.dst b.val (bk.dH S.heap b.up) nx)) (fun v=>Q (.aR v) (S.at_ nx))):=by
  intro t _ h;rcases Rd.holds_one h with⟨e,j,i⟩|⟨v,j,i⟩
  . exact .inl ⟨nx,_,j,fun N Q u=>Rd.kc (fun e' I=>by subst I;exact u) (fun _ h=>h.elim) i⟩
  . exact .inr ⟨v,nx,S,j,fun N Q hQ=>Rd.kc (fun _ h=>h.elim) (fun v' hv=>by grind) i⟩
 split at h
 . rename_i f H Z m
   unfold pU at h;split at h
   . rename_i g A J l
     obtain⟨D,x,a,r,Y⟩:=h;have z:∀(N:St->Prop) (Q:AX->St->Prop),(match D with | .ret v=>N ((S.put o.dst v x 0).at_ a) | .aR v=>Q (.aR v) ((S.put none .any x 0).at_ a))->ln P E nm o (S.at_ nx) N Q:=by
      intro N Q n;refine⟨y,?_⟩;rw[m];show pI P E ((S.at_ nx).ev E f) _ _ _ _ _;unfold pI;rw[show(S.at_ nx).ev E f=S.ev E f from rfl,l]
      refine⟨r.1,fun c w M j i O=>(r.2 c w M j i O).mono ?_⟩
      rintro e w' ⟨T,U,C,p,L,R,X,W,V,rfl,rfl,rfl⟩
      refine⟨T,_,_,_,L,R,X,W,V,?_⟩;cases p with
      | ret v=>exact n
      | aR v=>exact n
     grind
   . rename_i k l
     obtain⟨D,x,a,G,Y⟩:=h;have z:∀(N:St->Prop) (Q:AX->St->Prop),(match D with | .ret v=>N ((S.put o.dst v x 0).at_ a) | .aR v=>Q (.aR v) ((S.put none .any x 0).at_ a))->ln P E nm o (S.at_ nx) N Q:=by
      intro N Q n;refine⟨y,?_⟩;rw[m];show pI P E ((S.at_ nx).ev E f) _ _ _ _ _;unfold pI;rw[show(S.at_ nx).ev E f=S.ev E f from rfl,l]
      refine AY.mono G ?_
      rintro p U C ⟨rfl,rfl,rfl⟩
      cases p with
      | ret v=>exact n
      | aR v=>exact n
     grind
   grind
 . rename_i m
   have n:=s o.op rfl h;rcases n with⟨a,S',j,i⟩|⟨v,a,S',j,i⟩
   . refine .inl ⟨a, S', j, fun N Q u => ⟨y, ?_⟩⟩
     have:=i N Q u;split
     . grind
     . exact this
   . refine .inr ⟨v, a, S', j, fun N Q u => ⟨y, ?_⟩⟩
     have:=i N Q u;split
     . grind
     . exact this
theorem AS {ops:List Oper}{c:Nat}{K:AX->Nat->St->Prop}:∀(d:List Oper) (i nx:Nat) (S:St),jt P E ops c K d i nx S->
 ∃f a S',jC P E ops c (po f a S') d i (S.at_ nx)∧K f a S'
 | [],i,nx,S,h=>⟨.normal,nx,S,⟨rfl,rfl⟩,h⟩
 | o :: d, i, nx, S, h => by
   have x:∀j b,gO ops (S.at_ nx) j b=gO _ S j b:=fun _ _=>rfl
   have u:pV P E (c+i) nx o S (jt P E ops c K d (i+1)) K->∃f a S',ln P E (c+i) o (S.at_ nx) (jC P E ops c (po f a S') d (i+1)) (po f a S')∧K f a S':=by
    intro h;rcases QI h with⟨a,S',m,q⟩|⟨v,a,S',m,q⟩
    . obtain ⟨f, k, s, l, n⟩ := AS _ _ _ S' m
      grind
    grind
   have g:(cv S o.dst=true∧jt P E ops c K d (i+1) nx (S.put o.dst (.ao []) S.heap 0))->∃f a S',(cv S o.dst=true∧jC P E ops c (po f a S') d (i+1) ((S.at_ nx).put o.dst (.ao []) S.heap nx))∧K f a S':=by
    rintro⟨m,q⟩
    obtain⟨f,k,s,l,n⟩:=AS _ _ nx _ q;exact⟨f,k,s,⟨m,l⟩,n⟩
   simp[jt,gate] at h;simp[jC,gate,x];cases r:o.guard with
   | none =>
     grind
   | some p =>
     obtain⟨j,t⟩:=p;rw[r] at h
     dsimp at h ⊢
     cases y:gO ops S j _ with
     | none=>grind
     | some b =>
       rw[y] at h;cases w:b with
       | true =>
         grind
       | false =>
         obtain⟨f,a,S',l,n⟩:=g (h.2 w);exact⟨f,a,S',⟨(fun h=>by cases h),fun _=>l⟩,n⟩
theorem rE:∀(code:Code) {K:AX->Nat->St->Prop} {nx:Nat} {S:St},oi P E rr code K nx S->∃m a S',aw P E rr code (po m a S') (S.at_ nx)∧K m a S'
 | .skip,K,nx,S,h=>⟨.normal,nx,S,⟨rfl,rfl⟩,h⟩
 | .label _,K,nx,S,h=>⟨.normal,nx,S,⟨rfl,rfl⟩,h⟩
 | .exit i,K,nx,S,h=>⟨.exit i,nx,S,⟨rfl,rfl⟩,h⟩
 | .goto l,K,nx,S,h=>⟨.goto l,nx,S,⟨rfl,rfl⟩,h⟩
 | .ret,K,nx,S,h=>⟨.ret,nx,S,⟨rfl,rfl⟩,h⟩
 | .region _ q false, K, nx, S, h => by
   obtain⟨m,a,S',f,g⟩:=AS q.toList 0 _ S h;exact⟨m,a,S',f,g⟩
 | .region _ q true,K,nx,S,h=>h
 | .seq x y, K, nx, S, h => by
   obtain⟨m,a,S',f,g⟩:=rE x h;cases m with
   | normal =>
     obtain⟨r,z,C,G,F⟩:=rE y g;refine⟨r,z,C,?_,F⟩;exact iU x (fun e s k=>by grind) f
   | exit i=>exact⟨_,a,S',iU x (fun e s k=>by grind) f,g⟩
   | goto l=>exact⟨_,a,S',iU x (fun e s k=>by grind) f,g⟩
   | ret=>exact⟨_,a,S',iU x (fun e s k=>by grind) f,g⟩
   | aR v=>exact⟨_,a,S',iU x (fun e s k=>by grind) f,g⟩
 | .cond x t e, K, nx, S, h => by
   simp only[oi] at h;simp only[aw];rw[show(S.at_ nx).ev E x=S.ev E x from rfl]
   cases D:S.ev E x<;>rw[D] at h<;>first|exact h.elim|skip
   rename_i b;cases b with
   | true =>
     obtain⟨m,a,S',f,g⟩:=rE t (h.1 rfl)
     grind
   | false =>
     obtain⟨m,a,S',f,g⟩:=rE e (h.2 rfl)
     grind
 | .block id d, K, nx, S, h => by
   obtain⟨m,a,S',f,g⟩:=rE d h;cases m with
   | exit j =>
     by_cases A:j=id
     . exact⟨.normal,a,S',iU d (fun e s k=>by grind) f,g.1 A⟩
     . exact⟨.exit j,a,S',iU d (fun e s k=>by grind) f,g.2 A⟩
   | normal=>exact⟨_,a,S',iU d (fun e s k=>by grind) f,g⟩
   | goto l=>exact⟨_,a,S',iU d (fun e s k=>by grind) f,g⟩
   | ret=>exact⟨_,a,S',iU d (fun e s k=>by grind) f,g⟩
   | aR v=>exact⟨_,a,S',iU d (fun e s k=>by grind) f,g⟩
 | .loop _,K,nx,S,h=>h
 | .rangeFunc ..,K,nx,S,h=>h
 | .scope _,K,nx,S,h=>h
 | .refuse _,K,nx,S,h=>h
theorem DW.kP (e:bW P E){code:Code}{K:AX->Nat->St->Prop}{nx:Nat}{S:St}(h:oi P E rr code K nx S):DW P E rr nx code K S:=by
 obtain⟨d,a,f,g,b⟩:=rE _ h;exact⟨d,a,f,SW.sA e g,b⟩
theorem DW.mono {code:Code}{K K':AX->Nat->St->Prop}{nx:Nat}{S:St}(h:DW P E rr nx code K S)(c:∀e n s,K e n s->K' e n s):DW P E rr nx code K' S:=by
 obtain⟨d,a,g,i,b⟩:=h;exact⟨d,a,g,i,c _ _ _ b⟩
theorem Xr {a:Func}{Q:AE->Prop}{e:AX}{S:St}{nx:Nat}(h:je E a Q e S):je E a Q e (S.at_ nx):=by
 cases e<;>exact h
theorem DP.nD {f:FuncId}{c:Func}{code:Code}{args:List AV}{Q:AE->Prop}(C:bW P E)(r:P.funcs[f]? = some c)(t:c.body=some code)(G:c.name ≠ "runtime.NumGoroutine")
 (A:args.length<2 ^ 20)(h:DW P E false 0 code (fun e _ S=>je E c Q e S) (St.init args c.ntmps .nil 0)):DP P E f args Q:=by
 obtain⟨o,u,d,B,b⟩:=h;have a : ∀ k, (∀ n : AE->Prop, n k->je E c n o d)->PC P E f args (· = k) := fun k w => PC.CC C r t G A (B.mono fun e s z=>by
  obtain⟨rfl,rfl⟩:=z;exact Xr (w (·=k) rfl))
 cases o with
 | normal =>
   simp only[je] at b a;cases m:ij E c d with
   | none=>grind
   | some x =>
     rw[m] at b a;dsimp only at b a;cases g:snap d.heap 20 x with
     | none=>grind
     | some y=>rw[g] at b a;exact⟨.ret y,a _ fun _ h=>h,b⟩
 | ret =>
   simp only[je] at b a;cases m:ij E c d with
   | none=>grind
   | some x =>
     rw[m] at b a;dsimp only at b a;cases g:snap d.heap 20 x with
     | none=>grind
     | some y=>rw[g] at b a;exact⟨.ret y,a _ fun _ h=>h,b⟩
 | aR v =>
   simp only[je] at b a;cases g:snap d.heap 20 v with
   | none=>grind
   | some y=>rw[g] at b a;exact⟨.aR y,a _ fun _ h=>h,b⟩
 | exit i=>exact b.elim
 | goto l=>exact b.elim
def qG (E:Env)(b:Func)(R:AE->ai->Nat->Prop):AX->Nat->St->Prop
 | .normal, a, S | .ret, a, S => match ij E b S with
   | some x=>R (.ret x) S.heap a
   | none=>False
 | .aR v,a,S=>R (.aR v) S.heap a
 | _,_,_=>False
theorem DC.nD {f:FuncId}{c:Func}{code:Code}{args:List AV}{H:ai}{nx:Nat}{R:AE->ai->Nat->Prop}(w:bW P E)(F:P.funcs[f]? = some c)(C:c.body=some code)(A:c.name ≠ "runtime.NumGoroutine")
 (y:args.length<2 ^ 20)(h:DW P E false nx code (qG E c R) (St.init args c.ntmps H 0)):DC P E f args H nx R:=by
 obtain⟨r,d,k,B,g⟩:=h;have b : ∀ o, (∀ t, t o k.heap d->sL E c t r (k.at_ d))->AC P E f _ H _ (fun a h n => a = o ∧ h = k.heap ∧ n = d) := fun o I => AC.CC w F C A y (B.mono fun e s G=>by
  grind)
 have j:ij E _ (k.at_ d)=ij E c k:=rfl;cases r with
 | normal =>
   simp[qG] at g;simp[sL,j] at b;cases p:ij E c k with
   | none=>grind
   | some x=>rw[p] at g b;exact⟨.ret x,_,_,b _ fun _ h=>h,g⟩
 | ret =>
   simp[qG] at g;simp[sL,j] at b;cases p:ij E c k with
   | none=>grind
   | some x=>rw[p] at g b;exact⟨.ret x,_,_,b _ fun _ h=>h,g⟩
 | aR v=>exact⟨.aR v,_,_,b _ fun _ h=>h,g⟩
 | exit i=>exact g.elim
 | goto l=>exact g.elim
theorem DC.pure {g:FuncId}{args args':List AV}{H:ai}{nx:Nat}{Q:AE->Prop}{R:AE->ai->Nat->Prop}(d:aM (snap .nil 20) args=some args')(h:DP P E g args' Q)(c:∀a,Q a->R a H nx) :
 DC P E g args H nx R:=by
 obtain⟨a,e,b⟩:=h;exact⟨a,H,nx,AC.pure d e (ag),c _ b⟩
theorem DC.flat {g:FuncId}{args args':List AV}{H:ai}{nx:Nat}{Q:AE->Prop}{R:AE->ai->Nat->Prop}(c:aM (snap H 20) args=some args')(h:DP P E g args' Q)(d:∀b,Q b->b.flat=true∧R b H nx) :
 DC P E g args H nx R:=by
 obtain⟨b,e,f⟩:=h;exact⟨b,H,nx,AC.flat c e (fun a i=>by grind),(d _ f).2⟩
theorem DP.mono {g:FuncId}{args:List AV}{Q b:AE->Prop}(h:DP P E g args Q)(c:∀a,Q a->b a):DP P E g args b:=by
 obtain⟨a,e,d⟩:=h;exact⟨a,e,c _ d⟩
theorem DY.mono {k:Nat}{args:List AV}{H:ai}{nx:Nat}{R R':AE->ai->Nat->Prop}(h:DY P E k args H nx R)(e:∀a H nx,R a H nx->R' a H nx):DY P E k args H nx R':=by
 obtain⟨a,d,b,f,c⟩:=h;exact⟨a,d,b,f,e _ _ _ c⟩
theorem DC.mono {g:FuncId}{args:List AV}{H:ai}{nx:Nat}{R R':AE->ai->Nat->Prop}(h:DC P E g args H nx R)(e:∀a H nx,R a H nx->R' a H nx):DC P E g args H nx R':=by
 obtain⟨a,d,b,f,c⟩:=h;exact⟨a,d,b,f,e _ _ _ c⟩
end
end Go.Ago
end
