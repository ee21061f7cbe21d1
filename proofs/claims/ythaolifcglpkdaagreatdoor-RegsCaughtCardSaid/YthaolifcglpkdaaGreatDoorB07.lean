/-
  Part B07: lemmas, each with its own conditions.
-/
import Derived.Test.YthaolifcglpkdaaGreatDoorB06
set_option maxRecDepth 100000
set_option maxHeartbeats 0
set_option linter.all false
section
namespace Go.Ago
open List Nat
section
variable {P:Program} {E:Env} {rr:Bool}
theorem AC.mono {g:FuncId}{args:List AV}{H:aj}{nx:Nat}{R R':AE->aj->Nat->Prop}(h:AC P E g args H nx R)(e:∀a H nx,R a H nx->R' a H nx):AC P E g args H nx R':=
 ⟨h.1,fun c w r f i j=>(h.2 c w _ f i j).mono fun _ _ ⟨k,l,b,a,n,o,m,p,q,d⟩=>⟨k,l,b,a,n,o,m,p,q,e _ _ _ d⟩⟩
theorem AY.mono {k:Nat}{args:List AV}{H:aj}{nx:Nat}{R R':AE->aj->Nat->Prop}(h:AY P E k args H nx R)(j:∀a H nx,R a H nx->R' a H nx):AY P E k args H nx R':=by
 intro c w x f g i;obtain⟨B,b,l,m,n,o⟩:=h c w _ f g i;exact⟨B,b,l,m,n,o.mono fun _ _ ⟨p,q,d,a,s,t,r,u,v,e⟩=>⟨p,q,d,a,s,t,r,u,v,j _ _ _ e⟩⟩
theorem Rd.kf {H:aj}{K K':bo->Prop}{Kp Kp':AV->Prop}(d:∀e,K e->K' e)(c:∀v,Kp v->Kp' v):∀{r:Rd},r.holds H K Kp->r.holds H K' Kp'
 | .ret e,h=>d e h
 | .aU v,h=>c v h
 | .rd k f, h => by
   simp[holds] at *;cases e:H.get k with
   | none=>grind
   | some o=>rw[e] at h;exact kf d c h
 | .ca b r,h=>⟨h.1,kf d c h.2⟩
 | .br b r s,h=>⟨fun e=>kf d c (h.1 e),fun e=>kf d c (h.2 e)⟩
 | .opt o f, h => by
   obtain⟨x,i,h⟩:=h;exact⟨x,i,kf d c h⟩
 | .fail,h=>h.elim
theorem EV {nm:Nat}{o:Oper}{S:St}{b a:St->Prop}{K K':AX->St->Prop}(d:∀s,b s->a s)(f:∀e s,K e s->K' e s)(h:lq P E nm o S b K):lq P E nm o S a K':=by
 obtain⟨g,h⟩:=h;refine⟨g,?_⟩;split at h
 . unfold pF at *
   split at h
   . refine AC.mono h fun i H j c => ?_
     grind
   . refine AY.mono h fun i H j c => ?_
     grind
   omega
 exact Rd.kf (fun _ h=>d _ h) (fun _ h=>f _ _ h) h
theorem v8 {ops:List Oper}{d:Nat}{K K':AX->St->Prop}(f:∀e s,K e s->K' e s):∀(c:List Oper) {i:Nat} {S:St},jF P E ops d K c i S->jF P E ops d K' c i S
 | [],i,S,h=>f _ _ h
 | o :: c, i, S, h => by
   simp[jF,gate] at *;cases k:o.guard with
   | none=>rw[k] at h;exact EV (fun _ h=>v8 f _ h) f h
   | some p =>
     obtain⟨j,l⟩:=p;rw[k] at h
     dsimp at *
     cases m:gO _ S j _ with
     | none=>grind
     | some b =>
       rw[m] at h;exact⟨fun g=>EV (fun _ h=>v8 f _ h) f (h.1 g),fun g=>⟨(h.2 g).1,v8 f _ (h.2 g).2⟩⟩
theorem iV:∀(code:Code) {K K':AX->St->Prop} {S:St},(∀e s,K e s->K' e s)->aw P E rr code K S->aw P E rr code K' S
 | .skip,K,K',S,b,h=>b _ _ h
 | .label _,K,K',S,b,h=>b _ _ h
 | .exit i,K,K',S,b,h=>b _ _ h
 | .goto l,K,K',S,b,h=>b _ _ h
 | .ret,K,K',S,b,h=>b _ _ h
 | .region _ _ false,K,K',S,b,h=>v8 b _ h
 | .region _ _ true,K,K',S,b,h=>SW.mono h b
 | .seq x y, K, K', S, b, h => iV x (fun e s f=>by
  cases e<;>first|exact iV y b f|grind) h
 | .cond x t e, K, K', S, b, h => by
   simp[aw] at *;cases g:S.ev E x<;>rw[g] at h<;>first|omega|skip
   exact⟨fun d=>iV t b (h.1 d),fun d=>iV e b (h.2 d)⟩
 | .block _ c, K, K', S, b, h => iV c (fun e s f=>by
  grind) h
 | .loop _,K,K',S,b,h=>SW.mono h b
 | .rangeFunc ..,K,K',S,b,h=>SW.mono h b
 | .scope _,K,K',S,b,h=>SW.mono h b
 | .refuse _,K,K',S,b,h=>SW.mono h b
end
def DC (P:Program)(E:Env)(g:FuncId)(args:List AV)(H:aj)(nx:Nat)(R:AE->aj->Nat->Prop):Prop:=
 ∃c d b,AC P E g args H nx (fun a h n=>a=c∧h=d∧n=b)∧R c d b
def DP (P:Program)(E:Env)(g:FuncId)(args:List AV)(Q:AE->Prop):Prop:=∃a,PC P E g args (·=a)∧Q a
def DY (P:Program)(E:Env)(k:Nat)(args:List AV)(H:aj)(nx:Nat)(R:AE->aj->Nat->Prop):Prop:=
 ∃c d b,AY P E k args H nx (fun a h n=>a=c∧h=d∧n=b)∧R c d b
def DW (P:Program)(E:Env)(e:Bool)(nx:Nat)(code:Code)(K:AX->Nat->St->Prop)(S:St):Prop:=
 ∃d b c,SW P E e code (fun a s=>a=d∧s=c.at_ b) (S.at_ nx)∧K d b c
def pQ (P:Program)(E:Env)(nx:Nat)(f:AV)(args:List AV)(S:St)(d:Option Tmp)(b:Nat->St->Prop)(K:AX->Nat->St->Prop):Prop:=
 match f with
 | .fn (.func g) c h => DC P E g (c ++ args ++ h) S.heap nx fun i e a => match i with
   | .ret v=>b a (S.put d v e 0)
   | .aU v=>K (.aU v) a (S.put none .any e 0)
 | .fZ k => DY P E k args S.heap nx fun i e a => match i with
   | .ret v=>b a (S.put d v e 0)
   | .aU v=>K (.aU v) a (S.put none .any e 0)
 | _=>False
def pR (P:Program)(E:Env)(nm nx:Nat)(o:Oper)(S:St)(a:Nat->St->Prop)(K:AX->Nat->St->Prop):Prop:=
 cv S o.dst=true∧match o.op with
  | .call { callee := .value f,args,.. }=>pQ P E nx (S.ev E f) (args.toList.map (S.ev E)) S o.dst a K
  | d=>(cf E nm (S.ev E) d).holds S.heap (fun b=>a nx (S.put o.dst b.val (bo.dK S.heap b.up) 0)) (fun v=>K (.aU v) nx S)
def jx (P:Program)(E:Env)(ops:List Oper)(a:Nat)(K:AX->Nat->St->Prop):List Oper->Nat->Nat->St->Prop
 | [],_,d,S=>K .normal d S
 | o::c,i,d,S=>gate ops S o.guard (pR P E (a+i) d o S (jx P E ops a K c (i+1)) K) (cv S o.dst=true∧jx P E ops a K c (i+1) d (S.put o.dst (.ao []) S.heap 0))
def og (P:Program)(E:Env)(h:Bool):Code->(AX->Nat->St->Prop)->Nat->St->Prop
 | .skip,K,c,S=>K .normal c S
 | .label _,K,c,S=>K .normal c S
 | .exit i,K,c,S=>K (.exit i) c S
 | .goto l,K,c,S=>K (.goto l) c S
 | .ret,K,c,S=>K .ret c S
 | .region _ g false,K,c,S=>jx P E g.toList c K g.toList 0 (c+g.size) S
 | .seq a b,K,c,S=>og P E h a (fun e d k=>match e with | .normal=>og P E h b K d k|e=>K e d k) c S
 | .cond x t e, K, c, S => match S.ev E x with
   | .bool b=>(b=true->og P E h t K c S)∧(b=false->og P E h e K c S)
   | _=>False
 | .block id n, K, c, S => og P E h n (fun e d k => match e with
   | .exit j=>(j=id->K .normal d k)∧(j≠id->K (.exit j) d k)
   | e=>K e d k) c S
 | m,K,c,S=>DW P E h c m K S
section
variable {P:Program} {E:Env} {rr:Bool}
theorem Rd.holds_one {H:aj}{K:bo->Prop}{Kp:AV->Prop}:∀{r:Rd},r.holds H K Kp->(∃e,K e∧r.holds H (·=e) (fun _=>False))∨(∃v,Kp v∧r.holds H (fun _=>False) (·=v))
 | .ret e,h => .inl ⟨e,h,rfl⟩
 | .aU v,h => .inr ⟨v,h,rfl⟩
 | .rd k f, h => by
   simp[holds] at *;cases e:H.get k with
   | none=>grind
   | some o=>rw[e] at h;exact holds_one h
 | .ca b r, h => by
   obtain⟨rfl,h⟩:=h;rcases holds_one h with⟨e,d,c⟩|⟨e,d,c⟩
   . exact .inl ⟨e,d,rfl,c⟩
   exact .inr ⟨e,d,rfl,c⟩
 | .br b r s, h => by
   cases b with
   | true =>
     rcases holds_one (h.1 rfl) with⟨e,d,c⟩|⟨e,d,c⟩
     . exact .inl ⟨e,d,fun _=>c,fun h=>by cases h⟩
     exact .inr ⟨e,d,fun _=>c,fun h=>by cases h⟩
   | false =>
     rcases holds_one (h.2 rfl) with⟨e,d,c⟩|⟨e,d,c⟩
     . exact .inl ⟨e,d,(fun h=>by cases h),fun _=>c⟩
     exact .inr ⟨e,d,(fun h=>by cases h),fun _=>c⟩
 | .opt o f, h => by
   obtain⟨x,rfl,h⟩:=h;rcases holds_one h with⟨e,d,c⟩|⟨e,d,c⟩
   . exact .inl ⟨e,d,x,rfl,c⟩
   exact .inr ⟨e,d,x,rfl,c⟩
 | .fail,h=>h.elim
abbrev pk (b:AX)(nx:Nat)(S:St):AX->St->Prop:=fun a s=>a=b∧s=S.at_ nx
theorem Rc {nm nx:Nat}{o:Oper}{S:St}{d:Nat->St->Prop}{K:AX->Nat->St->Prop}(h:pR P E nm nx o S d K) :
 (∃a S',d a S'∧∀(N:St->Prop) (Q:AX->St->Prop),N (S'.at_ a)->lq P E nm o (S.at_ nx) N Q)∨(∃v a S',K (.aU v) a S'∧∀(N:St->Prop) (Q:AX->St->Prop),Q (.aU v) (S'.at_ a)->lq P E nm o (S.at_ nx) N Q):=by
 obtain⟨y,h⟩:=h;have s:∀t,o.op=t->(cf E nm (S.ev E) t).holds S.heap (fun b=>d nx (S.put o.dst b.val (bo.dK S.heap b.up) 0)) (fun v=>K (.aU v) nx S)->
  (∃a S',d a S'∧∀(N:St->Prop) (Q:AX->St->Prop),N (S'.at_ a)->(cf E nm (S.ev E) t).holds S.heap (fun b=>N ((S.at_ nx).put o.dst b.val (bo.dK S.heap b.up) nx)) (fun v=>Q (.aU v) (S.at_ nx))) ∨
  (∃v a S',K (.aU v) a S'∧∀(N:St->Prop) (Q:AX->St->Prop),Q (.aU v) (S'.at_ a)->(cf E nm (S.ev E) t).holds S.heap (fun b=>N ((S.at_ nx).put o.dst b.val (bo.dK S.heap b.up) nx)) (fun v=>Q (.aU v) (S.at_ nx))):=by
  intro t _ h;rcases Rd.holds_one h with⟨e,j,i⟩|⟨v,j,i⟩
  . exact .inl ⟨nx,_,j,fun N Q u=>Rd.kf (fun e' I=>by subst I;exact u) (fun _ h=>h.elim) i⟩
  . exact .inr ⟨v,nx,S,j,fun N Q hQ=>Rd.kf (fun _ h=>h.elim) (fun v' hv=>by grind) i⟩
 split at h
 . rename_i f H Z m
   unfold pQ at h;split at h
   . rename_i g A J l
     obtain⟨D,x,a,r,Y⟩:=h;have z:∀(N:St->Prop) (Q:AX->St->Prop),(match D with | .ret v=>N ((S.put o.dst v x 0).at_ a) | .aU v=>Q (.aU v) ((S.put none .any x 0).at_ a))->lq P E nm o (S.at_ nx) N Q:=by
      intro N Q n;refine⟨y,?_⟩;rw[m];show pF P E ((S.at_ nx).ev E f) _ _ _ _ _;unfold pF;rw[show(S.at_ nx).ev E f=S.ev E f from rfl,l]
      refine⟨r.1,fun c w M j i O=>(r.2 c w M j i O).mono ?_⟩
      rintro e w' ⟨T,U,C,p,L,R,X,W,V,rfl,rfl,rfl⟩
      refine⟨T,_,_,_,L,R,X,W,V,?_⟩;cases p with
      | ret v=>exact n
      | aU v=>exact n
     grind
   . rename_i k l
     obtain⟨D,x,a,G,Y⟩:=h;have z:∀(N:St->Prop) (Q:AX->St->Prop),(match D with | .ret v=>N ((S.put o.dst v x 0).at_ a) | .aU v=>Q (.aU v) ((S.put none .any x 0).at_ a))->lq P E nm o (S.at_ nx) N Q:=by
      intro N Q n;refine⟨y,?_⟩;rw[m];show pF P E ((S.at_ nx).ev E f) _ _ _ _ _;unfold pF;rw[show(S.at_ nx).ev E f=S.ev E f from rfl,l]
      refine AY.mono G ?_
      rintro p U C ⟨rfl,rfl,rfl⟩
      cases p with
      | ret v=>exact n
      | aU v=>exact n
     grind
   grind
 . rename_i m
   have n:=s o.op rfl h;rcases n with⟨a,S',j,i⟩|⟨v,a,S',j,i⟩
   . refine .inl ⟨a, S', j, fun N Q u => ⟨y, ?_⟩⟩
     have:=i N Q u;split
     . grind
     . exact this
   . refine .inr ⟨v, a, S', j, fun N Q u => ⟨y, ?_⟩⟩
     have:=i N Q u;split
     . grind
     . exact this
theorem A6 {ops:List Oper}{c:Nat}{K:AX->Nat->St->Prop}:∀(d:List Oper) (i nx:Nat) (S:St),jx P E ops c K d i nx S->
 ∃f a S',jF P E ops c (pk f a S') d i (S.at_ nx)∧K f a S'
 | [],i,nx,S,h=>⟨.normal,nx,S,⟨rfl,rfl⟩,h⟩
 | o :: d, i, nx, S, h => by
   have x:∀j b,gO ops (S.at_ nx) j b=gO _ S j b:=fun _ _=>rfl
   have u:pR P E (c+i) nx o S (jx P E ops c K d (i+1)) K->∃f a S',lq P E (c+i) o (S.at_ nx) (jF P E ops c (pk f a S') d (i+1)) (pk f a S')∧K f a S':=by
    intro h;rcases Rc h with⟨a,S',m,q⟩|⟨v,a,S',m,q⟩
    . obtain ⟨f, k, s, l, n⟩ := A6 _ _ _ S' m
      grind
    grind
   have g:(cv S o.dst=true∧jx P E ops c K d (i+1) nx (S.put o.dst (.ao []) S.heap 0))->∃f a S',(cv S o.dst=true∧jF P E ops c (pk f a S') d (i+1) ((S.at_ nx).put o.dst (.ao []) S.heap nx))∧K f a S':=by
    rintro⟨m,q⟩
    obtain⟨f,k,s,l,n⟩:=A6 _ _ nx _ q;exact⟨f,k,s,⟨m,l⟩,n⟩
   simp[jx,gate] at h;simp[jF,gate,x];cases r:o.guard with
   | none =>
     grind
   | some p =>
     obtain⟨j,t⟩:=p;rw[r] at h
     dsimp at h ⊢
     cases y:gO ops S j _ with
     | none=>grind
     | some b =>
       rw[y] at h;cases w:b with
       | true =>
         grind
       | false =>
         obtain⟨f,a,S',l,n⟩:=g (h.2 w);exact⟨f,a,S',⟨(fun h=>by cases h),fun _=>l⟩,n⟩
theorem rD:∀(code:Code) {K:AX->Nat->St->Prop} {nx:Nat} {S:St},og P E rr code K nx S->∃m a S',aw P E rr code (pk m a S') (S.at_ nx)∧K m a S'
 | .skip,K,nx,S,h=>⟨.normal,nx,S,⟨rfl,rfl⟩,h⟩
 | .label _,K,nx,S,h=>⟨.normal,nx,S,⟨rfl,rfl⟩,h⟩
 | .exit i,K,nx,S,h=>⟨.exit i,nx,S,⟨rfl,rfl⟩,h⟩
 | .goto l,K,nx,S,h=>⟨.goto l,nx,S,⟨rfl,rfl⟩,h⟩
 | .ret,K,nx,S,h=>⟨.ret,nx,S,⟨rfl,rfl⟩,h⟩
 | .region _ q false, K, nx, S, h => by
   obtain⟨m,a,S',f,g⟩:=A6 q.toList 0 _ S h;exact⟨m,a,S',f,g⟩
 | .region _ q true,K,nx,S,h=>h
 | .seq x y, K, nx, S, h => by
   obtain⟨m,a,S',f,g⟩:=rD x h;cases m with
   | normal =>
     obtain⟨r,z,C,G,F⟩:=rD y g;refine⟨r,z,C,?_,F⟩;exact iV x (fun e s k=>by grind) f
   | exit i=>exact⟨_,a,S',iV x (fun e s k=>by grind) f,g⟩
   | goto l=>exact⟨_,a,S',iV x (fun e s k=>by grind) f,g⟩
   | ret=>exact⟨_,a,S',iV x (fun e s k=>by grind) f,g⟩
   | aU v=>exact⟨_,a,S',iV x (fun e s k=>by grind) f,g⟩
 | .cond x t e, K, nx, S, h => by
   simp only[og] at h;simp only[aw];rw[show(S.at_ nx).ev E x=S.ev E x from rfl]
   cases D:S.ev E x<;>rw[D] at h<;>first|exact h.elim|skip
   rename_i b;cases b with
   | true =>
     obtain⟨m,a,S',f,g⟩:=rD t (h.1 rfl)
     grind
   | false =>
     obtain⟨m,a,S',f,g⟩:=rD e (h.2 rfl)
     grind
 | .block id d, K, nx, S, h => by
   obtain⟨m,a,S',f,g⟩:=rD d h;cases m with
   | exit j =>
     by_cases A:j=id
     . exact⟨.normal,a,S',iV d (fun e s k=>by grind) f,g.1 A⟩
     . exact⟨.exit j,a,S',iV d (fun e s k=>by grind) f,g.2 A⟩
   | normal=>exact⟨_,a,S',iV d (fun e s k=>by grind) f,g⟩
   | goto l=>exact⟨_,a,S',iV d (fun e s k=>by grind) f,g⟩
   | ret=>exact⟨_,a,S',iV d (fun e s k=>by grind) f,g⟩
   | aU v=>exact⟨_,a,S',iV d (fun e s k=>by grind) f,g⟩
 | .loop _,K,nx,S,h=>h
 | .rangeFunc ..,K,nx,S,h=>h
 | .scope _,K,nx,S,h=>h
 | .refuse _,K,nx,S,h=>h
theorem DW.kR (e:bZ P E){code:Code}{K:AX->Nat->St->Prop}{nx:Nat}{S:St}(h:og P E rr code K nx S):DW P E rr nx code K S:=by
 obtain⟨d,a,f,g,b⟩:=rD _ h;exact⟨d,a,f,SW.sB e g,b⟩
theorem DW.mono {code:Code}{K K':AX->Nat->St->Prop}{nx:Nat}{S:St}(h:DW P E rr nx code K S)(c:∀e n s,K e n s->K' e n s):DW P E rr nx code K' S:=by
 obtain⟨d,a,g,i,b⟩:=h;exact⟨d,a,g,i,c _ _ _ b⟩
theorem XV {a:Func}{Q:AE->Prop}{e:AX}{S:St}{nx:Nat}(h:ji E a Q e S):ji E a Q e (S.at_ nx):=by
 cases e<;>exact h
theorem DP.nC {f:FuncId}{c:Func}{code:Code}{args:List AV}{Q:AE->Prop}(C:bZ P E)(r:P.funcs[f]? = some c)(t:c.body=some code)(G:c.name ≠ "runtime.NumGoroutine")
 (A:args.length<2 ^ 20)(h:DW P E false 0 code (fun e _ S=>ji E c Q e S) (St.init args c.ntmps .nil 0)):DP P E f args Q:=by
 obtain⟨o,u,d,B,b⟩:=h;have a : ∀ k, (∀ n : AE->Prop, n k->ji E c n o d)->PC P E f args (· = k) := fun k w => PC.CT C r t G A (B.mono fun e s z=>by
  obtain⟨rfl,rfl⟩:=z;exact XV (w (·=k) rfl))
 cases o with
 | normal =>
   simp only[ji] at b a;cases m:ig E c d with
   | none=>grind
   | some x =>
     rw[m] at b a;dsimp only at b a;cases g:snap d.heap 20 x with
     | none=>grind
     | some y=>rw[g] at b a;exact⟨.ret y,a _ fun _ h=>h,b⟩
 | ret =>
   simp only[ji] at b a;cases m:ig E c d with
   | none=>grind
   | some x =>
     rw[m] at b a;dsimp only at b a;cases g:snap d.heap 20 x with
     | none=>grind
     | some y=>rw[g] at b a;exact⟨.ret y,a _ fun _ h=>h,b⟩
 | aU v =>
   simp only[ji] at b a;cases g:snap d.heap 20 v with
   | none=>grind
   | some y=>rw[g] at b a;exact⟨.aU y,a _ fun _ h=>h,b⟩
 | exit i=>exact b.elim
 | goto l=>exact b.elim
def qE (E:Env)(b:Func)(R:AE->aj->Nat->Prop):AX->Nat->St->Prop
 | .normal, a, S | .ret, a, S => match ig E b S with
   | some x=>R (.ret x) S.heap a
   | none=>False
 | .aU v,a,S=>R (.aU v) S.heap a
 | _,_,_=>False
theorem DC.nC {f:FuncId}{c:Func}{code:Code}{args:List AV}{H:aj}{nx:Nat}{R:AE->aj->Nat->Prop}(w:bZ P E)(F:P.funcs[f]? = some c)(C:c.body=some code)(A:c.name ≠ "runtime.NumGoroutine")
 (y:args.length<2 ^ 20)(h:DW P E false nx code (qE E c R) (St.init args c.ntmps H 0)):DC P E f args H nx R:=by
 obtain⟨r,d,k,B,g⟩:=h;have b : ∀ o, (∀ t, t o k.heap d->sN E c t r (k.at_ d))->AC P E f _ H _ (fun a h n => a = o ∧ h = k.heap ∧ n = d) := fun o I => AC.CT w F C A y (B.mono fun e s G=>by
  grind)
 have j:ig E _ (k.at_ d)=ig E c k:=rfl;cases r with
 | normal =>
   simp[qE] at g;simp[sN,j] at b;cases p:ig E c k with
   | none=>grind
   | some x=>rw[p] at g b;exact⟨.ret x,_,_,b _ fun _ h=>h,g⟩
 | ret =>
   simp[qE] at g;simp[sN,j] at b;cases p:ig E c k with
   | none=>grind
   | some x=>rw[p] at g b;exact⟨.ret x,_,_,b _ fun _ h=>h,g⟩
 | aU v=>exact⟨.aU v,_,_,b _ fun _ h=>h,g⟩
 | exit i=>exact g.elim
 | goto l=>exact g.elim
theorem DC.pure {g:FuncId}{args args':List AV}{H:aj}{nx:Nat}{Q:AE->Prop}{R:AE->aj->Nat->Prop}(d:aM (snap .nil 20) args=some args')(h:DP P E g args' Q)(c:∀a,Q a->R a H nx) :
 DC P E g args H nx R:=by
 obtain⟨a,e,b⟩:=h;exact⟨a,H,nx,AC.pure d e (ag),c _ b⟩
theorem DC.flat {g:FuncId}{args args':List AV}{H:aj}{nx:Nat}{Q:AE->Prop}{R:AE->aj->Nat->Prop}(c:aM (snap H 20) args=some args')(h:DP P E g args' Q)(d:∀b,Q b->b.flat=true∧R b H nx) :
 DC P E g args H nx R:=by
 obtain⟨b,e,f⟩:=h;exact⟨b,H,nx,AC.flat c e (fun a i=>by grind),(d _ f).2⟩
theorem DP.mono {g:FuncId}{args:List AV}{Q b:AE->Prop}(h:DP P E g args Q)(c:∀a,Q a->b a):DP P E g args b:=by
 obtain⟨a,e,d⟩:=h;exact⟨a,e,c _ d⟩
theorem DY.mono {k:Nat}{args:List AV}{H:aj}{nx:Nat}{R R':AE->aj->Nat->Prop}(h:DY P E k args H nx R)(e:∀a H nx,R a H nx->R' a H nx):DY P E k args H nx R':=by
 obtain⟨a,d,b,f,c⟩:=h;exact⟨a,d,b,f,e _ _ _ c⟩
theorem DC.mono {g:FuncId}{args:List AV}{H:aj}{nx:Nat}{R R':AE->aj->Nat->Prop}(h:DC P E g args H nx R)(e:∀a H nx,R a H nx->R' a H nx):DC P E g args H nx R':=by
 obtain⟨a,d,b,f,c⟩:=h;exact⟨a,d,b,f,e _ _ _ c⟩
end
end Go.Ago
end
section
namespace Go.Ago
open List Nat
def AV.f0 (v:AV)(k:AV->Prop):Prop:=
 match v with
 | .any=>k .any
 | .bool b=>k (.bool b)
 | .int i n=>k (.int i n)
 | .str l=>k (.str l)
 | .dI=>k .dI
 | .ptr a i o=>k (.ptr a i o)
 | .bm d=>k (.bm d)
 | .ai=>k .ai
 | .cW=>k .cW
 | .ay a i n s=>k (.ay a i n s)
 | .ak s c=>k (.ak s c)
 | .fS=>k .fS
 | .fZ a=>k (.fZ a)
 | .cX a=>k (.cX a)
 | .cK c=>k (.cK c)
 | .fn f g h=>k (.fn f g h)
 | .cY=>k .cY
 | .cG t v=>k (.cG t v)
 | .eI=>k .eI
 | .agg d=>k (.agg d)
 | .ao e=>k (.ao e)
def fL (f:AV->(AV->Prop)->Prop):List AV->(List AV->Prop)->Prop
 | [],k=>k []
 | x::l,k=>f x fun b=>fL f l fun a=>k (b::a)
def AV.fa (v:AV)(k:AV->Prop):Prop:=
 match v with
 | .agg b=>fL AV.f0 b fun a=>k (.agg a)
 | .bm b=>fL AV.f0 b fun a=>k (.bm a)
 | v=>v.f0 k
def AV.f1 (v:AV)(k:AV->Prop):Prop:=
 match v with
 | .cG t v=>v.fa fun c=>k (.cG t c)
 | .fn f e d=>fL AV.fa e fun a=>fL AV.fa d fun b=>k (.fn f a b)
 | v=>v.fa k
def AV.f2 (v:AV)(k:AV->Prop):Prop:=
 match v with
 | .bool b=>cond b (k (.bool true)) (k (.bool false))
 | .ao c=>fL AV.f1 c fun a=>k (.ao a)
 | v=>v.f1 k
def AV.ur (b:Bool)(v:AV)(k:AV->Prop):Prop:=
 match b with
 | true => match v with
   | .ao c=>fL AV.f1 c fun a=>k (.ao a)
   | v=>v.f1 k
 | false=>v.f2 k
theorem AV.wS {v:AV}{k:AV->Prop}(h:v.f0 k):k v:=by cases v<;>exact h
theorem gp {f:AV->(AV->Prop)->Prop}(b:∀x k,f x k->k x):∀{l:List AV} {k:List AV->Prop},fL f l k->k l
 | [],_,h=>h
 | _::l,_,h=>gp b (l:=l) (b _ _ h)
theorem AV.wU {v:AV}{k:AV->Prop}(h:v.fa k):k v:=by
 cases v<;>first|exact gp (fun _ _ h=>AV.wS h) h|exact AV.wS h
theorem AV.gm {v:AV}{k:AV->Prop}(h:v.f1 k):k v:=by
 cases v<;>first|exact AV.wU (k:=fun v=>k (.cG _ v)) h|exact gp (fun _ _ h=>AV.wU h) (gp (fun _ _ h=>AV.wU h) h)|exact AV.wU (k:=k) h
theorem AV.GL {v:AV}{k:AV->Prop}(h:v.f2 k):k v:=by
 cases v<;>first|exact gp (fun _ _ h=>AV.gm h) h|exact AV.gm (k:=k) h|skip
 rename_i b;cases b<;>exact h
theorem AV.oo {a:Bool}{v:AV}{k:AV->Prop}(h:v.ur a k):k v:=by
 cases a with
 | false=>exact AV.GL h
 | true=>cases v<;>first|exact gp (fun _ _ h=>AV.gm h) h|exact AV.gm h
def fN (n:Nat)(k:Nat->Prop):Prop:=
 match n with
 | 0=>k 0
 | m+1=>k (m+1)
theorem rN {n:Nat}{k:Nat->Prop}(h:fN n k):k n:=by cases n<;>exact h
theorem pM {A B:Prop}{b:Bool}(c:b=true->A)(a:b=false->B):cond b A B:=by
 grind
theorem A2 {A B:Prop}{b:Bool}(c:b=true)(a:A):cond b A B:=by grind
theorem A1 {A B:Prop}{b:Bool}(c:b=false)(a:B):cond b A B:=by grind
def xU (o:Option (List AV))(f:List AV->Prop):Prop:=
 match o with
 | some e=>f e
 | none=>False
theorem bR {o:Option (List AV)}{f:List AV->Prop}{e:List AV}(h:o=some e)(a:f e):xU o f:=by subst h;exact a
def dO (k:Nat)(K:an->Prop):aj->Prop
 | .nil=>False
 | .node l x r => match (Tr.node l x r).get k with
   | some o=>K o
   | none=>False
 | .put j v t => cond (beq k j) (match v with
   | some o=>K o
   | none=>False) (dO k K t)
 | .fx A N g t => cond (ble A k && blt k (A + N)) (match g (k - A) with
   | some o=>K o
   | none=>False) (dO k K t)
theorem lF {k:Nat}{K:an->Prop}:∀{H:aj},dO k K H->∃o,H.get k=some o∧K o
 | .nil,h=>h.elim
 | .node l x r, h => by
   simp only[dO] at h
   grind
 | .put j v t, h => by
   simp only[dO] at h;rw[Tr.get];cases e:beq k j with
   | true =>
     grind
   | false=>rw[e] at h;exact lF (H:=t) h
 | .fx A N g t, h => by
   simp only[dO] at h;rw[Tr.get];cases e:ble A k && blt k (A+N) with
   | true =>
     grind
   | false=>rw[e] at h;exact lF (H:=t) h
theorem rW {k:Nat}{K:an->Prop}{o:an}:∀{H:aj},H.get k=some o->K o->dO k K H
 | .nil,e,_=>by cases e
 | .node l x r, e, h => by
   simp only[dO]
   grind
 | .put j v t, e, h => by
   simp only[dO];rw[Tr.get] at e;cases b:beq k j with
   | true=>grind
   | false=>rw[b] at e;exact rW (H:=t) e h
 | .fx A N g t, e, h => by
   simp only[dO];rw[Tr.get] at e;cases b:ble A k && blt k (A+N) with
   | true=>grind
   | false=>rw[b] at e;exact rW (H:=t) e h
theorem uC {k:Nat}{K:an->Prop}{o:an}{H:aj}(e:H.get k=some o):dO k K H=K o:=
 propext ⟨fun h=>by obtain⟨b,a,h⟩:=lF h;grind,rW e⟩
def Rd.h3 (H:aj)(K:AV->List (Nat×Option an)->Prop)(Kp:AV->Prop):Rd->Prop
 | .ret e => match e with
   | ⟨v,c⟩=>K v c
 | .aU v=>Kp v
 | .rd k f=>dO k (fun o=>(f o).h3 H K Kp) H
 | .ca b r=>cond b (r.h3 H K Kp) False
 | .br b r s=>cond b (r.h3 H K Kp) (s.h3 H K Kp)
 | .opt o f=>xU o fun e=>fL AV.f0 e fun a=>(f a).h3 H K Kp
 | .fail=>False
theorem Rd.qa {H:aj}{K:AV->List (Nat×Option an)->Prop}{Kp:AV->Prop}:∀{r:Rd},r.h3 H K Kp->r.holds H (fun e=>K e.val e.up) Kp
 | .ret e,h=>h
 | .aU v,h=>h
 | .rd k f, h => by
   simp[h3] at h;simp[holds];obtain⟨o,e,h⟩:=lF h;rw[e];exact qa h
 | .ca b r, h => by
   cases b with
   | true=>exact⟨rfl,qa h⟩
   | false=>exact h.elim
 | .br b r s, h => by
   cases b with
   | true=>exact⟨fun _=>qa h,fun h=>by cases h⟩
   | false=>exact⟨(fun h=>by cases h),fun _=>qa h⟩
 | .opt o f, h => by
   cases o with
   | none=>exact h.elim
   | some e=>exact⟨e,rfl,qa (gp (fun _ _ h=>AV.wS h) h)⟩
 | .fail,h=>h.elim
def Rd.cH (H:aj)(K:AV->List (Nat×Option an)->List Nat->Prop):Rd->List Nat->Prop
 | .ret e, l => match e with
   | ⟨v,c⟩=>K v c l
 | .aU _,_=>False
 | .rd k f,l=>dO k (fun o=>(f o).cH H K (k::l)) H
 | .ca b r,l=>cond b (r.cH H K l) False
 | .br b r s,l=>cond b (r.cH H K l) (s.cH H K l)
 | .opt o f,l=>xU o fun e=>fL AV.f0 e fun a=>(f a).cH H K l
 | .fail,_=>False
theorem Rd.ov {H:aj}{K:AV->List (Nat×Option an)->List Nat->Prop}:∀{r:Rd} {l:List Nat},r.cH H K l->r.gP H (fun e l=>K e.val e.up l) l
 | .ret e,_,h=>h
 | .aU v,_,h=>h.elim
 | .rd k f, l, h => by
   simp[cH] at h;simp[gP];obtain⟨o,e,h⟩:=lF h;rw[e];exact ov h
 | .ca b r, l, h => by
   cases b with
   | true=>exact⟨rfl,ov h⟩
   | false=>exact h.elim
 | .br b r s, l, h => by
   cases b with
   | true=>exact⟨fun _=>ov h,fun h=>by cases h⟩
   | false=>exact⟨(fun h=>by cases h),fun _=>ov h⟩
 | .opt o f, l, h => by
   cases o with
   | none=>exact h.elim
   | some e=>exact⟨e,rfl,ov (gp (fun _ _ h=>AV.wS h) h)⟩
 | .fail,_,h=>h.elim
theorem Rd.qd {H:aj}{K:bo->List Nat->Prop}:∀{r:Rd} {l:List Nat},r.gP H K l->∃e l',K e l'∧r.gP H (fun j i=>j=e∧i=l') l
 | .ret e,l,h=>⟨e,l,h,rfl,rfl⟩
 | .aU v,_,h=>h.elim
 | .rd k f, l, h => by
   simp[gP] at h ⊢;cases e:H.get k with
   | none=>grind
   | some o=>rw[e] at h;exact qd h
 | .ca b r, l, h => by
   obtain⟨rfl,h⟩:=h;obtain⟨e,l',d,c⟩:=qd h;exact⟨e,l',d,rfl,c⟩
 | .br b r s, l, h => by
   cases b with
   | true =>
     obtain⟨e,l',d,c⟩:=qd (h.1 rfl);exact⟨e,l',d,fun _=>c,fun h=>by cases h⟩
   | false =>
     obtain⟨e,l',d,c⟩:=qd (h.2 rfl);exact⟨e,l',d,(fun h=>by cases h),fun _=>c⟩
 | .opt o f, l, h => by
   obtain⟨x,rfl,h⟩:=h;obtain⟨e,l',d,c⟩:=qd h;exact⟨e,l',d,x,rfl,c⟩
 | .fail,_,h=>h.elim
theorem Rd.oz {H:aj}{K K':bo->List Nat->Prop}(c:∀e l,K e l->K' e l):∀{r:Rd} {l:List Nat},r.gP H K l->r.gP H K' l
 | .ret e,l,h=>c _ _ h
 | .aU v,_,h=>h.elim
 | .rd k f, l, h => by
   simp[gP] at *;cases e:H.get k with
   | none=>grind
   | some o=>rw[e] at h;exact oz c h
 | .ca b r,l,h=>⟨h.1,oz c h.2⟩
 | .br b r s,l,h=>⟨fun e=>oz c (h.1 e),fun e=>oz c (h.2 e)⟩
 | .opt o f, l, h => by
   obtain⟨x,g,h⟩:=h;exact⟨x,g,oz c h⟩
 | .fail,_,h=>h.elim
theorem t_ {P:Program}{E:Env}{ops:List Oper}{e:Nat}{f:List Nat}{K K':St->Prop}(m:∀s,K s->K' s):∀(c:List Oper) {i:Nat} {S:St} {acc:List (Nat×List Nat×List Nat)},fW P E ops e f K c i S acc->fW P E ops e f K' c i S acc
 | [],i,S,acc,h=>m _ h
 | o :: c, i, S, acc, h => by
   simp only[fW,gate] at h ⊢;have q:∀{d:DE->Prop} {n:DE->Prop},(∀x,d x->n x)->mY P E (e+i) o S d->mY P E (e+i) o S n:=by
    intro d n t h;refine⟨h.1,?_⟩;have h:=h.2;split at h
    . grind
    . exact Rd.oz (fun _ _ h=>t _ h) h
   cases r:o.guard with
   | none=>rw[r] at h;exact q (fun x g=>⟨g.1,t_ m c g.2⟩) h
   | some p =>
     obtain⟨j,k⟩:=p;rw[r] at h;dsimp only at h ⊢;cases u:gO ops S j k with
     | none=>grind
     | some b =>
       rw[u] at h;dsimp only at h ⊢;exact⟨fun l=>q (fun x g=>⟨g.1,t_ m c g.2⟩) (h.1 l),fun l=>⟨(h.2 l).1,t_ m c (h.2 l).2⟩⟩
def s_ (H:aj)(k:aj->Prop):List (Nat×Option an)->Prop
 | []=>k H
 | (n,o)::l=>s_ (.put n o H) k l
theorem vu {k:aj->Prop}:∀{l:List (Nat×Option an)} {H:aj},s_ H k l->k (bo.dK H l)
 | [],_,h=>h
 | (_,_)::l,_,h=>vu (l:=l) h
def ko (b:Tr AV)(n:Nat)(a:Option Tmp)(v:AV)(H:aj)(k:St->Prop):Prop:=
 v.f2 fun c=>match a with
  | none=>k ⟨b,n,H,0⟩
  | some d=>k ⟨.put d (some c) b,n,H,0⟩
theorem oP {c:Tr AV}{n x:Nat}{h0:aj}{a:Option Tmp}{v:AV}{H:aj}{k:St->Prop}(h:ko c n a v H k):k ((⟨c,n,h0,x⟩:St).put a v H 0):=by
 have:=AV.GL h;cases a<;>exact this
inductive Br (b:Bool)(A B:Prop):Prop where
 | t (h:b=true) (x:A)
 | f (h:b=false) (x:B)
inductive Rq (b:Bool)(A:Prop):Prop where
 | mk (h:b=true) (x:A)
inductive az (o:Option (List AV))(f:List AV->Prop):Prop where
 | mk (e:List AV) (h:o=some e) (x:f e)
theorem Br.split {A B:Prop}{b:Bool}(c:b=true->A)(a:b=false->B):Br b A B:=by
 cases b
 . exact .f rfl (a rfl)
 exact .t rfl (c rfl)
theorem Br.c {A B:Prop}{b:Bool}(h:Br b A B):cond b A B:=by
 cases h<;>grind
theorem Rq.c {A:Prop}{b:Bool}(h:Rq b A):cond b A False:=by
 obtain⟨h,x⟩:=h;grind
theorem az.c {o:Option (List AV)}{f:List AV->Prop}(h:az o f):xU o f:=by
 obtain⟨e,h,x⟩:=h;subst h;exact x
abbrev KR:=AV->List (Nat×Option an)->List Nat->Prop
def pI (a:Bool)(b:Bool)(K:KR)(l:List Nat):Prop:=
 match a with
 | true=>K (.bool b) [] l
 | false=>Br b (K (.bool true) [] l) (K (.bool false) [] l)
theorem Fc {H:aj}{a b:Bool}{K:KR}{l:List Nat}(h:pI a b K l):(Rd.ret ⟨.bool b,[]⟩).cH H K l:=by
 cases a with
 | true=>exact h
 | false =>
   cases h with
   | t h x=>subst h;exact x
   | f h x=>subst h;exact x
def AD (a:Bool)(b:Bool)(K:KR)(l:List Nat):Prop:=
 match a with
 | true=>K (.bool (!b)) [] l
 | false=>Br b (K (.bool false) [] l) (K (.bool true) [] l)
theorem Fe {H:aj}{a b:Bool}{K:KR}{l:List Nat}(h:AD a b K l):(Rd.ret ⟨.bool (!b),[]⟩).cH H K l:=by
 cases a with
 | true=>exact h
 | false =>
   cases h with
   | t h x=>subst h;exact x
   | f h x=>subst h;exact x
def AA (d:Bool)(E:Env)(H:aj)(K:KR)(l:List Nat)(e:BinOp)(t:TypeId)(f:Bool)(x y:AV):Prop:=
 match x,y with
 | .int k a, .int c b =>
   match e with
   | .shl=>Rq (decide (0≤b)) (K (.int k (wr k (a * 2 ^ min b.toNat k.bits))) [] l)
   | .shr=>Rq (decide (0≤b)) (K (.int k (a.fdiv (2 ^ min b.toNat k.bits))) [] l)
   | .eql=>match decide (k=c) with|true=>pI d (aV a b) K l|false=>False
   | .neq=>match decide (k=c) with|true=>AD d (aV a b) K l|false=>False
   | .lss=>match decide (k=c) with|true=>pI d (bA a b) K l|false=>False
   | .leq=>match decide (k=c) with|true=>pI d (bw a b) K l|false=>False
   | .gtr=>match decide (k=c) with|true=>pI d (bA b a) K l|false=>False
   | .geq=>match decide (k=c) with|true=>pI d (bw b a) K l|false=>False
   | .quo=>match decide (k=c) with|true=>Rq (!decide (b=0)) (K (.int k (wr k (a.tdiv b))) [] l)|false=>False
   | .rem=>match decide (k=c) with|true=>Rq (!decide (b=0)) (K (.int k (a.tmod b)) [] l)|false=>False
   | e=>(my E e t f (.int k a) (.int c b)).cH H K l
 | .str a, .str b =>
   match e with
   | .add=>Rq (ble (a.length+b.length) 9223372036854775807) (K (.str (a++b)) [] l)
   | .eql=>pI d (bp a b) K l
   | .neq=>AD d (bp a b) K l
   | e=>(my E e t f (.str a) (.str b)).cH H K l
 | x,y=>(my E e t f x y).cH H K l
theorem OS {g:Bool}{E:Env}{H:aj}{K:KR}{l:List Nat}{e:BinOp}{t:TypeId}{d:Bool}{x y:AV}(h:AA g E H K l e t d x y):(my E e t d x y).cH H K l:=by
 unfold AA at h;split at h
 . rename_i k a i b
   cases e<;>dsimp only at h<;>first|exact h|skip
   all_goals (simp only[my])
   all_goals first
    | exact Rq.c h
    | (cases f:decide (k=i)<;>rw[f] at h<;>dsimp only at h<;>first|exact Fc h|exact Fe h|exact Rq.c h)
 . rename_i a b
   cases e<;>dsimp only at h<;>first|exact h|skip
   all_goals (simp only[my])
   all_goals first
    | exact Rq.c h
    | exact Fc h
    | exact Fe h
 omega
def Cm (E:Env)(K:KR)(l:List Nat)(t:TypeId)(x j:AV):Prop:=
 match E.ti t with
 | some m => match m.desc, j with
   | .slice e, .int _ n => match E.ti e with
     | some c => match x with
       | .ay k i a g=>cond (g == c.size) (Rq (aZ n a) (K (.ptr k (i+n.toNat) 0) [] l)) False
       | .ak g h=>cond (g == c.size) (Rq (aZ n h.length) (az h[n.toNat]? fun d=>fL AV.f0 d fun b=>K (.bm b) [] l)) False
       | _=>False
     | none=>False
   | .array a e, .int _ n => match E.ti e with
     | some c => match x with
       | .ptr k i f=>Rq (aZ n a) (K (.ptr k i (f+n.toNat * c.size)) [] l)
       | .bm d=>Rq (aZ n a) (az (chunk d (n.toNat * c.size) c.size) fun d=>fL AV.f0 d fun b=>K (.bm b) [] l)
       | _=>False
     | none=>False
   | _,_=>False
 | none=>False
theorem T_ {E:Env}{H:aj}{K:KR}{l:List Nat}{t:TypeId}{x q:AV}(h:Cm E K l t x q):(yQ E t x q).cH H K l:=by
 unfold Cm at h;unfold yQ cj;split at h<;>first|exact h.elim|skip
 rename_i s f;rw[f];dsimp only;split at h<;>first|exact h.elim|skip
 . rename_i e _ n g
   rw[g];dsimp only;split at h<;>first|exact h.elim|skip
   rename_i m a;rw[a];dsimp only;split at h<;>first|exact h.elim|skip
   . rename_i k i o j
     cases b:j == m.size with
     | false=>grind
     | true =>
       rw[b] at h;simp only[cond_true] at h;show cond (_ && _) _ _;rw[b,zdc];exact h.c
   . rename_i j r
     cases b:j == m.size with
     | false=>grind
     | true =>
       rw[b] at h;simp only[cond_true] at h;obtain⟨p,d⟩:=h;show cond (_ && _) _ _;rw[b,zdc,p];exact d.c
 . rename_i o e _ n g
   rw[g];dsimp only;split at h<;>first|exact h.elim|skip
   rename_i m a;rw[a];dsimp only;split at h<;>first|exact h.elim|skip
   . exact h.c
   . obtain ⟨p, d⟩ := h
     show cond _ _ _;rw[p];exact d.c
def Cl (E:Env)(H:aj)(K:KR)(l:List Nat)(t:TypeId)(x d:AV):Prop:=
 match E.ti t with
 | some g => match g.desc, d, x with
   | .string,.int _ n,.str s=>Rq (aZ n s.length) (K (.int .u8 (s.getD n.toNat 0).toNat) [] l)
   | .array b e, .int _ n, .agg f => match E.ti e with
     | some a=>Rq (aZ n b) (az (chunk f (n.toNat * a.size) a.size) fun e=>fL AV.f0 e fun c=>(nq a c 0).cH H K l)
     | none=>False
   | _,_,_=>False
 | none=>False
theorem T9 {E:Env}{H:aj}{K:KR}{l:List Nat}{t:TypeId}{x f:AV}(h:Cl E H K l t x f):(yP E t x f).cH H K l:=by
 unfold Cl at h;unfold yP cj;split at h<;>first|exact h.elim|skip
 rename_i m a;rw[a];dsimp only;split at h<;>first|exact h.elim|skip
 . rename_i _ n s b
   rw[b];dsimp only;exact h.c
 . rename_i j e _ n k b
   rw[b];dsimp only;split at h<;>first|exact h.elim|skip
   rename_i o d;rw[d];dsimp only;obtain⟨i,g⟩:=h;show cond _ _ _;rw[i];exact g.c
def DM (E:Env)(H:aj)(K:KR)(l:List Nat)(t:TypeId)(x:AV)(lo hi mx:Option AV):Prop:=
 match E.ti t with
 | some h => match h.desc, x with
   | .string, .str s => match mx, dt 0 lo, dt s.length hi with
     | none,some a,some b=>Rq (jB a b s.length) (K (.str ((s.drop a.toNat).take (b.toNat - a.toNat))) [] l)
     | _,_,_=>False
   | .slice e, .ay k i c d => match E.ti e with
     | some g => cond (d == g.size) (match dt 0 lo, dt c hi with
       | some a, some b => match mx with
         | none=>Rq (jB a b c) (K (.ay k (i+a.toNat) (b.toNat - a.toNat) d) [] l)
         | _=>(nO E t x lo hi mx).cH H K l
       | _,_=>False) False
     | none=>False
   | .slice e, .ak d f => match E.ti e with
     | some g => cond (d == g.size) (match dt 0 lo, dt f.length hi with
       | some a, some b => match mx with
         | none=>Rq (jB a b f.length) (K (.ak d ((f.drop a.toNat).take (b.toNat - a.toNat))) [] l)
         | _=>(nO E t x lo hi mx).cH H K l
       | _,_=>False) False
     | none=>False
   | _,_=>(nO E t x lo hi mx).cH H K l
 | none=>False
theorem Y1 {E:Env}{H:aj}{K:KR}{l:List Nat}{t:TypeId}{x:AV}{lo hi mx:Option AV}(h:DM E H K l t x lo hi mx):(nO E t x lo hi mx).cH H K l:=by
 unfold DM at h;split at h<;>first|exact h.elim|skip
 rename_i u f;split at h
 . rename_i s j
   split at h<;>first|exact h.elim|skip
   rename_i a b m n;unfold nO cj;rw[f];dsimp only;rw[j];dsimp only;rw[m,n];exact h.c
 . rename_i e k i q g j
   split at h<;>first|exact h.elim|skip
   rename_i o d;cases p:g == o.size with
   | false=>grind
   | true =>
     rw[p] at h;simp only[cond_true] at h;split at h<;>first|exact h.elim|skip
     rename_i a b m n;split at h<;>first|exact h|skip
     unfold nO cj;rw[f];dsimp only;rw[j];dsimp only;rw[d];dsimp only;show cond (g == o.size) _ _;rw[p,m,n];exact h.c
 . rename_i e g r j
   split at h<;>first|exact h.elim|skip
   rename_i o d;cases p:g == o.size with
   | false=>grind
   | true =>
     rw[p] at h;simp only[cond_true] at h;split at h<;>first|exact h.elim|skip
     rename_i a b m n;split at h<;>first|exact h|skip
     unfold nO cj;rw[f];dsimp only;rw[j];dsimp only;rw[d];dsimp only;show cond (g == o.size) _ _;rw[p,m,n];exact h.c
 omega
def CD (E:Env)(K:KR)(b:List Nat)(nm:Nat)(t:TypeId)(len cap:AV):Prop:=
 match E.ti t with
 | some d => match d.desc, len, cap with
   | .slice e, .int .i64 l, .int .i64 c => match E.ti e with
     | some a => Rq (decide (0 ≤ l) && decide (l ≤ c) && decide (c ≤ 9223372036854775807) && decide (a.bytes * c ≤ 140737488355328) && blt 0 a.size)
       (cond (ble (nm+2) 16777216) (K (.ay nm 0 l.toNat a.size) [(nm,some (.arr a.size (replicate c.toNat a.zero)))] b) False)
     | none=>False
   | _,_,_=>False
 | none=>False
theorem VX {E:Env}{H:aj}{K:KR}{d:List Nat}{nm:Nat}{t:TypeId}{len cap:AV}(h:CD E K d nm t len cap):(yS E nm t len cap).cH H K d:=by
 unfold CD at h;unfold yS cj;split at h<;>first|exact h.elim|skip
 rename_i g b;rw[b];dsimp only;split at h<;>first|exact h.elim|skip
 rename_i e l c f;rw[f];dsimp only;split at h<;>first|exact h.elim|skip
 rename_i i a;rw[a];dsimp only;exact h.c
def vT (H:aj)(K:KR)(d:List Nat)(nm:Nat)(c:TI)(s:AV)(a:List (List AV)):Prop:=
 Br (beq a.length 0) (match qk s with|some _=>K s [] d|none=>False)
  (Rq (a.all fun e => e.all AV.one) (match s with
    | .ai | .cW=>Rq (ble (a.length * (c.bytes+1)) 140737488355328) (cond (ble (nm+2) 16777216) (K (.ay nm 0 a.length c.size) [(nm,some (.arr c.size a))] d) False)
    | .ay k i b h => match H.get k with
      | some (.arr f g) => cond (h == c.size && f == c.size && ble (k + 2) 16777216 && ble (nm + 2) 16777216)
        (Rq (ble (i+b) g.length && ble ((b+a.length) * (c.bytes+1)) 140737488355328) (K (.ay nm 0 (b+a.length) c.size) [(k,none),(nm,some (.arr c.size ((g.drop i).take b++a)))] (k::d))) False
      | _=>False
    | _=>False))
def vU (nm:Nat)(c:TI)(s:AV)(a:List (List AV)):Rd:=
 .br (beq a.length 0) (match qk s with|some _ => .ret ⟨s,[]⟩|none => .fail)
  (.ca (a.all fun e => e.all AV.one) (match s with
    | .ai | .cW => .ca (ble (a.length * (c.bytes+1)) 140737488355328) (iI (.ay nm 0 a.length c.size) nm (.arr c.size a))
    | .ay k i b g => .rd k <| kj fun d f => .ca (g == c.size && d == c.size && ble (i+b) f.length && ble ((b+a.length) * (c.bytes+1)) 140737488355328 && ble (k+2) 16777216 && ble (nm+2) 16777216) (.ret ⟨.ay nm 0 (b+a.length) c.size,[(k,none),(nm,some (.arr c.size ((f.drop i).take b++a)))]⟩)
    | _ => .fail))
theorem Om {E:Env}{nm:Nat}{e:TypeId}{a:TI}{s x:AV}(h:E.ti e=some a):yL E nm e s x = .ca (blt 0 a.size) (rI a.size x (vU nm a s)):=by
 unfold yL cj;rw[h];rfl
theorem EX {H:aj}{K:KR}{j:List Nat}{nm:Nat}{b:TI}{s:AV}{a:List (List AV)}(h:vT H K j nm b s a):(vU nm b s a).cH H K j:=by
 unfold vU;unfold vT at h;cases h with
 | t h x =>
   simp only[Rd.cH,h,cond_true];cases w:qk s with
   | none=>grind
   | some n=>rw[w] at x;exact x
 | f h x =>
   obtain⟨u,x⟩:=x;simp only[Rd.cH,h,zb0,u,cond_true];cases s<;>dsimp only at x ⊢<;>first|exact x.c|skip
   rename_i k i d g;simp only[Rd.cH];cases l:H.get k with
   | none=>grind
   | some o =>
     rw[l] at x;cases o with
     | dJ _ _=>grind
     | lp _ _ _ _ _=>grind
     | mp _=>grind
     | cm _ _=>grind
     | arr e y=>
     dsimp only at x;rw[uC l];simp only[kj];cases m:g == b.size && e == b.size && ble (k+2) 16777216 && ble (nm+2) 16777216 with
     | false=>grind
     | true =>
       rw[m] at x;simp only[cond_true] at x;obtain⟨p,x⟩:=x;simp only[zbe] at m p;show cond _ _ _;rw[show(g == b.size && e == b.size && ble (i+d) y.length && ble ((d+a.length) * (b.bytes+1)) 140737488355328 && ble (k+2) 16777216 && ble (nm+2) 16777216)=true by
        grind]
       exact x
def Al (E:Env)(K:KR)(l:List Nat)(nm:Nat)(e:TypeId)(n:Int):Prop:=
 match E.ti e with
 | some a => cond (blt 0 a.size && a.zero.all AV.one) (Rq (blt 0 n.toNat && ble (n.toNat * (a.bytes+1)) 140737488355328)
  (cond (ble (nm+2) 16777216) (K (.ay nm 0 n.toNat a.size) [(nm,some (.arr a.size (replicate n.toNat a.zero)))] l) False)) False
 | none=>False
theorem Ot {E:Env}{H:aj}{K:KR}{l:List Nat}{nm:Nat}{e:TypeId}{n:Int}(h:Al E K l nm e n):(yK E nm e .ai (.int .i64 n)).cH H K l:=by
 unfold Al at h;unfold yK cj;split at h<;>first|exact h.elim|skip
 rename_i b a;rw[a];dsimp only;cases c:blt 0 b.size && b.zero.all AV.one with
 | false=>grind
 | true =>
   rw[c] at h;obtain⟨d,f⟩:=h;rw[d]
   assumption
def Ak (E:Env)(H:aj)(K:KR)(b:List Nat)(nm:Nat)(t j:TypeId)(s x:AV):Prop:=
 match E.ti t,E.ti j with
 | some l, some g => match l.desc, g.desc, x with
   | .slice e, .int _, .int .i64 n => match s with
     | .ai=>Al E K b nm e n
     | _=>False
   | .slice e, .slice _, .ai => match E.ti e with
     | some a=>cond (blt 0 a.size) (match qk s with|some _=>K s [] b|none=>False) False
     | none=>False
   | .slice e, .slice _, .ak h d => match E.ti e with
     | some a=>cond (blt 0 a.size && h == a.size) (vT H K b nm a s d) False
     | none=>False
   | .slice e, .slice _, .ay k i c h => match E.ti e with
     | some a => match H.get k with
       | some (.arr f d)=>cond (blt 0 a.size && h == a.size && f == a.size) (Rq (ble (i+c) d.length) (vT H K (k::b) nm a s ((d.drop i).take c))) False
       | _=>False
     | none=>False
   | _,_,_=>(qI E nm t j s x).cH H K b
 | _,_=>False
theorem Ol {E:Env}{H:aj}{K:KR}{o:List Nat}{nm:Nat}{t u:TypeId}{s x:AV}(h:Ak E H K o nm t u s x):(qI E nm t u s x).cH H K o:=by
 unfold Ak at h;split at h<;>first|exact h.elim|skip
 rename_i B q m j;have l:∀e g b,B.desc = .slice e->q.desc = .slice g->E.ti e=some b->(Rd.ca (blt 0 b.size) (rI b.size x (vU nm b s))).cH H K o->(qI E nm t u s x).cH H K o:=by
  intro e g b f a c v;unfold qI cj;rw[m,j];dsimp only;rw[f,a];dsimp only;rw[Om c];exact v
 split at h
 . rename_i e k n f a
   split at h<;>first|exact h.elim|skip
   unfold qI cj;rw[m,j];dsimp only;rw[f,a];exact Ot h
 . rename_i e g f a
   split at h<;>first|exact h.elim|skip
   rename_i b c;refine l e g b f a c ?_;show cond _ _ _;cases d:blt 0 b.size with
   | false=>grind
   | true =>
     rw[d] at h;simp only[cond_true] at h ⊢;show cond true _ _;simp only[cond_true];cases w:qk s with
     | none=>grind
     | some n=>rw[w] at h;exact h
 . rename_i e g p z f a
   split at h<;>first|exact h.elim|skip
   rename_i b c;refine l e g b f a c ?_;show cond _ _ _;cases d:blt 0 b.size && p == b.size with
   | false=>grind
   | true =>
     rw[d] at h;simp only[zbe] at d;rw[d.1];simp only[cond_true] at h ⊢;show cond (p == b.size) _ _;rw[d.2];exact EX h
 . rename_i e g k i A p f a
   split at h<;>first|exact h.elim|skip
   rename_i b c;refine l e g b f a c ?_;show cond _ _ _;split at h<;>first|exact h.elim|skip
   rename_i r z C;cases d:blt 0 b.size && p == b.size && r == b.size with
   | false=>grind
   | true =>
     rw[d] at h;simp only[cond_true] at h;obtain⟨y,h⟩:=h;simp only[zbe] at d;rw[d.1.1];simp only[cond_true,rI,Rd.cH,uC C,kj];rw[d.1.2,d.2,y];exact EX h
 omega
def CH (H:aj)(K:KR)(l:List Nat)(x:AV)(b:Bool):Prop:=
 match x,b with
 | .ptr k 0 0, true => match H.get k with
   | some (.dJ s a)=>cond (ble (k+2) 16777216) (Br (blt a s.length) (K (.ao [.bool true,.int .i64 a,.int .i32 (jK s a)]) [(k,some (.dJ s (a+hP s a)))] (k::l)) (K (.ao [.bool false]) [] (k::l))) False
   | _=>False
 | _,_=>False
theorem Wb {H:aj}{K:KR}{l:List Nat}{x:AV}{a:Bool}(h:CH H K l x a):(vj x a).cH H K l:=by
 unfold CH at h;unfold vj;split at h<;>first|exact h.elim|skip
 rename_i k;simp only[Rd.cH];cases b:H.get k with
 | none=>grind
 | some o =>
   rw[b] at h;cases o with
   | arr _ _=>grind
   | mp _=>grind
   | cm _ _=>grind
   | lp _ _ _ _ _=>grind
   | dJ s j =>
     rw[uC b];dsimp only at h ⊢;cases i:ble (k+2) 16777216 with
     | false=>grind
     | true =>
       rw[i] at h;simp only[cond_true] at h;simp only[Jn,Rd.cH,iI];cases h with
       | t c x=>grind
       | f c x=>grind
def uc (E:Env)(H:aj)(K:KR)(l:List Nat)(ts:TI)(x:AV):Prop:=
 match ts.desc with
 | .slice e => match E.ti e with
   | some h => match h.desc, x with
     | .int .u8,.ai=>K (.str []) [] l
     | .int .u8,.ak g c=>cond (g == 1) (az (kH c) fun f=>fL AV.f0 f fun a=>(lG a).cH H K l) False
     | .int .u8, .ay k i b g => match H.get k with
       | some (.arr d c)=>cond (g == 1 && d == 1) (Rq (ble (i+b) c.length) (az (kH ((c.drop i).take b)) fun f=>fL AV.f0 f fun a=>(lG a).cH H K (k::l))) False
       | _=>False
     | _,_=>False
   | none=>False
 | _=>False
theorem As {E:Env}{H:aj}{K:KR}{l:List Nat}{ts:TI}{x:AV}(h:uc E H K l ts x):(qJ E ts x).cH H K l:=by
 unfold uc at h;unfold qJ;split at h<;>first|exact h.elim|skip
 rename_i e n;rw[n];dsimp only;unfold cj;split at h<;>first|exact h.elim|skip
 rename_i r d;rw[d];dsimp only;split at h<;>first|exact h.elim|skip
 . rename_i a;rw[a];exact h
 . rename_i b m a
   rw[a];dsimp only;show cond (b == 1) _ _;cases g:b == 1 with
   | false=>grind
   | true=>rw[g] at h;exact az.c h
 . rename_i k i o b a
   rw[a];dsimp only;simp only[Rd.cH];split at h<;>first|exact h.elim|skip
   rename_i f m p;rw[uC p];simp only[kj,Rd.cH];cases g:b == 1 && f == 1 with
   | false=>grind
   | true =>
     rw[g] at h;simp only[cond_true] at h;obtain⟨q,j⟩:=h;rw[q];exact az.c j
def A5 (E:Env)(H:aj)(K:KR)(l:List Nat)(s d:TypeId)(x:AV):Prop:=
 match E.ti s,E.ti d with
 | some f, some i => match i.desc, x with
   | .int k,.int _ n=>K (.int k (wr k n)) [] l
   | .string,.str t=>K (.str t) [] l
   | .string,.int _ n=>K (.str (Utf8.encode n).data.toList) [] l
   | .string,.ai=>uc E H K l f .ai
   | .string,.ak a b=>uc E H K l f (.ak a b)
   | .string,.ay a b c e=>uc E H K l f (.ay a b c e)
   | .slice e, .str t => match E.ti e with
     | some h => match h.desc with
       | .int .u8=>K (.ak 1 (t.map fun b=>[.int .u8 b.toNat])) [] l
       | _=>False
     | none=>False
   | .slice _,.ay _ _ _ _=>(sT E s d x).cH H K l
   | _,_=>False
 | _,_=>False
theorem QY {E:Env}{H:aj}{K:KR}{l:List Nat}{s d:TypeId}{x:AV}(h:A5 E H K l s d x):(sT E s d x).cH H K l:=by
 unfold A5 at h;unfold sT cj;split at h<;>first|exact h.elim|skip
 rename_i q o i g;rw[i,g];dsimp only;split at h<;>first|exact h.elim|skip
 . rename_i k _ n f;rw[f];exact h
 . rename_i t f;rw[f];exact h
 . rename_i k n f;rw[f];exact h
 . rename_i f;rw[f];exact As h
 . rename_i a b f;rw[f];exact As h
 . rename_i a b c e f;rw[f];exact As h
 . rename_i e t f
   rw[f];dsimp only;split at h<;>first|exact h.elim|skip
   rename_i p j;rw[j];dsimp only;split at h<;>first|exact h.elim|skip
   rename_i m;rw[m];exact h
 . unfold sT cj at h
   grind
def AW (E:Env)(H:aj)(K:KR)(l:List Nat)(t:TypeId)(x:AV):Prop:=
 match E.ti t with
 | some f => match f.desc, x with
   | .slice e, .ay k i a g => match E.ti e with
     | some b => match H.get k with
       | some (.arr d c) => cond (blt 0 b.size && b.zero.all AV.one && g == b.size && d == b.size) (Rq (ble (i+a) c.length)
        (cond (ble (k+2) 16777216) (K (.ao []) [(k,some (.arr b.size (c.take i++replicate a b.zero++c.drop (i+a))))] (k::l)) False)) False
       | _=>False
     | none=>False
   | _,_=>False
 | none=>False
theorem Qt {E:Env}{H:aj}{K:KR}{l:List Nat}{t:TypeId}{x:AV}(h:AW E H K l t x):(yN E t x).cH H K l:=by
 unfold AW at h;unfold yN cj;split at h<;>first|exact h.elim|skip
 rename_i r c;rw[c];dsimp only;split at h<;>first|exact h.elim|skip
 rename_i e k i m f g;rw[g];dsimp only;split at h<;>first|exact h.elim|skip
 rename_i a b;rw[b];dsimp only;simp only[Rd.cH];split at h<;>first|exact h.elim|skip
 rename_i d q j;rw[uC j];simp only[kj,Rd.cH];cases n:blt 0 a.size && a.zero.all AV.one && f == a.size && d == a.size with
 | false=>grind
 | true =>
   rw[n] at h;simp only[cond_true] at h ⊢;obtain⟨o,p⟩:=h;rw[o]
   assumption
def vh (j:Bool)(E:Env)(nm:Nat)(ρ:Operand->AV)(H:aj)(K:KR)(l:List Nat)(b:Op):Prop:=
 match b with
 | .binOp b t x y _=>AA j E H K l b t (iD x || iD y) (ρ x) (ρ y)
 | .indexAddr t x i=>Cm E K l t (ρ x) (ρ i)
 | .index t x i=>Cl E H K l t (ρ x) (ρ i)
 | .slice t x k m h=>DM E H K l t (ρ x) (k.map ρ) (m.map ρ) (h.map ρ)
 | .makeSlice t n c=>CD E K l nm t (ρ n) (ρ c)
 | .next x f=>CH H K l (ρ x) f
 | .convert s d x=>A5 E H K l s d (ρ x)
 | .call { callee := .builtin .append, args, argTypes } => match argTypes.toList, args.toList.map ρ with
   | [t,g],[s,x]=>Ak E H K l nm t g s x
   | _,_=>False
 | .call { callee := .builtin .clear, args, argTypes } => match argTypes.toList, args.toList.map ρ with
   | [t],[x]=>AW E H K l t x
   | _,_=>False
 | b=>(cf E nm ρ b).cH H K l
theorem KN {d:Bool}{E:Env}{nm:Nat}{ρ:Operand->AV}{H:aj}{K:KR}{l:List Nat}{c:Op}(h:vh d E nm ρ H K l c):(cf E nm ρ c).cH H K l:=by
 unfold vh at h;split at h
 . exact OS h
 . exact T_ h
 . exact T9 h
 . exact Y1 h
 . exact VX h
 . exact Wb h
 . exact QY h
 . simp only [cf]
   split at h<;>first|exact h.elim|skip
   rename_i a b;simp only[yM];rw[a,b];exact Ol h
 . simp only [cf]
   split at h<;>first|exact h.elim|skip
   rename_i a b;simp only[yM];rw[a,b];exact Qt h
 omega
theorem Rd.rY {H:aj}{K:bo->Prop}{Kp:AV->Prop}:∀{r:Rd} {l:List Nat},r.gP H (fun e _=>K e) l->r.holds H K Kp
 | .ret e,_,h=>h
 | .aU v,_,h=>h.elim
 | .rd k f, l, h => by
   simp[gP] at h;simp[holds];cases e:H.get k with
   | none=>grind
   | some o=>rw[e] at h;exact rY h
 | .ca b r,l,h=>⟨h.1,rY h.2⟩
 | .br b r s,l,h=>⟨fun e=>rY (h.1 e),fun e=>rY (h.2 e)⟩
 | .opt o f, l, h => by
   obtain⟨x,g,h⟩:=h;exact⟨x,g,rY h⟩
 | .fail,_,h=>h.elim
theorem Yv {c:Bool}{E:Env}{nm:Nat}{ρ:Operand->AV}{H:aj}{K:AV->List (Nat×Option an)->Prop}{Kp:AV->Prop}{a:Op}(h:vh c E nm ρ H (fun v b _=>K v b) [] a) :
 (cf E nm ρ a).holds H (fun e=>K e.val e.up) Kp:=Rd.rY (Rd.ov (KN h))
section
variable (P:Program) (E:Env)
def call3 (nx:Nat)(f:AV)(args:List AV)(S:St)(e:Option Tmp)(c:Nat->St->Prop)(K:AX->Nat->St->Prop):Prop:=
 match f with
 | .fn (.func g) d l => fL AV.f1 (d ++ args ++ l) fun a => DC P E g a S.heap nx fun j h b => match j with
   | .ret v=>match S with|⟨i,n,_,_⟩=>ko i n e v h (c b)
   | .aU v=>K (.aU v) b (S.put none .any h 0)
 | .fZ k => fL AV.f1 args fun a => DY P E k a S.heap nx fun j h b => match j with
   | .ret v=>match S with|⟨i,n,_,_⟩=>ko i n e v h (c b)
   | .aU v=>K (.aU v) b (S.put none .any h 0)
 | _=>False
def xS (nm nx:Nat)(o:Oper)(S:St)(a:Nat->St->Prop)(K:AX->Nat->St->Prop):Prop:=
 match S with
 | ⟨b, n, H, x⟩ => cond (cv ⟨b, n, H, x⟩ o.dst) (match o.op with
   | .call { callee := .value f,args,.. }=>call3 P E nx (St.ev E ⟨b,n,H,x⟩ f) (args.toList.map (St.ev E ⟨b,n,H,x⟩)) ⟨b,n,H,x⟩ o.dst a K
   | .panic y=>(cf E nm (St.ev E ⟨b,n,H,x⟩) (.panic y)).h3 H (fun v c=>s_ H (fun d=>ko b n o.dst v d (a nx)) c) (fun v=>v.f1 fun h=>K (.aU h) nx ⟨b,n,H,x⟩)
   | g=>vh false E nm (St.ev E ⟨b,n,H,x⟩) H (fun v c _=>s_ H (fun d=>ko b n o.dst v d (a nx)) c) [] g) False
def ou (ops:List Oper)(S:St)(g:Option (Nat×Bool))(p q:Prop):Prop:=
 match g with
 | none=>p
 | some (j, a) => match gO ops S j a with
   | some b=>cond b p q
   | none=>False
def pP (ops:List Oper)(b:Nat)(K:AX->Nat->St->Prop):List Oper->Nat->Nat->St->Prop
 | [],_,d,S=>K .normal d S
 | o::c,i,d,S=>ou ops S o.guard (xS P E (b+i) d o S (pP ops b K c (i+1)) K)
  (match S with|⟨e,n,H,x⟩=>cond (cv ⟨e,n,H,x⟩ o.dst) (ko e n o.dst (.ao []) H (pP ops b K c (i+1) d)) False)
def DV (nm:Nat)(f:AV)(args:List AV)(H:aj)(R:AV->List (Nat×Option an)->List Nat->Prop):Prop:=
 (∃v a,mI P E f args H v a∧R v [] a)∨(∃v b,zV P E nm f args v b∧R v b [])∨∃v a b,zW P E f args H v a b∧R v b a
def gJ (a:List Nat)(i:Nat)(rds:List Nat)(c:List (Nat×Option an))(acc b:List (Nat×List Nat×List Nat)):Bool:=
 match c with
 | []=>b.all fun (j,_,k)=>kc k rds || comp a i j
 | c=>(c.all fun p=>ble (p.1+2) 16777216) && acc.all fun (j,r,k)=>(kc (c.map (·.1)) r && kc (c.map (·.1)) k && kc k rds) || comp a i j
def ug (b:List Nat)(i:Nat)(rds:List Nat)(c:List (Nat×Option an))(acc a:List (Nat×List Nat×List Nat))(X:Prop):Prop:=
 match c,a with
 | [],[]=>X
 | c,a=>Rq (gJ b i rds c acc a) X
def CW (d:Bool)(nm:Nat)(o:Oper)(S:St)(a:AV->List (Nat×Option an)->List Nat->Prop):Prop:=
 match S with
 | ⟨c, n, H, x⟩ => cond (cv ⟨c, n, H, x⟩ o.dst) (match o.op with
   | .call { callee := .value f,args,.. }=>(St.ev E ⟨c,n,H,x⟩ f).f1 fun j=>fL AV.f1 (args.toList.map (St.ev E ⟨c,n,H,x⟩)) fun b=>DV P E nm j b H fun v g e=>v.ur d fun h=>a h g e
   | k=>vh d E nm (St.ev E ⟨c,n,H,x⟩) H (fun v g l=>v.ur d fun h=>a h g l) [] k) False
def lr (S:St)(a:Option Tmp)(v:AV)(e:List (Nat×Option an))(k:St->Prop):Prop:=
 match S with
 | ⟨c, n, H, _⟩ => s_ H (fun b => match a with
   | none=>k ⟨c,n,b,0⟩
   | some d=>k ⟨.put d (some v) c,n,b,0⟩) e
def j9 (j:Bool)(ops:List Oper)(b:Nat)(a:List Nat)(K:St->Prop):List Oper->Nat->St->List (Nat×List Nat×List Nat)->List (Nat×List Nat×List Nat)->Prop
 | [],_,S,_,_=>K S
 | o::d,i,S,e,c=>ou ops S o.guard
  (CW P E j (b + i) o S fun v h f => ug a i f h e c (lr S o.dst v h fun k=>match h with
    | []=>j9 j ops b a K d (i+1) k ((i,f,[])::e) c
    | h=>j9 j ops b a K d (i+1) k ((i,f,h.map (·.1))::e) ((i,f,h.map (·.1))::c)))
  (cond (cv S o.dst) (lr S o.dst (.ao []) [] fun k=>j9 j ops b a K d (i+1) k ((i,[],[])::e) c) False)
def iX (ops:List Oper):Bool:=oi ops 0 && (let m:=jv ops [];y4 ⟨ops⟩ m)
inductive kZ (A B:Prop):Prop where
 | e (a:A)
 | l (b:B)
variable (rr:Bool)
def fO:Code->(AX->Nat->St->Prop)->Nat->St->Prop
 | .skip,K,d,S=>K .normal d S
 | .label _,K,d,S=>K .normal d S
 | .exit i,K,d,S=>K (.exit i) d S
 | .goto l,K,d,S=>K (.goto l) d S
 | .ret,K,d,S=>K .ret d S
 | .region _ c false,K,d,S=>pP P E c.toList d K c.toList 0 (d+c.size) S
 | .region _ c true,K,d,S=>iX c.toList=true∧kZ (j9 P E false c.toList d (jv c.toList []) (K .normal (d+c.size)) c.toList 0 S [] []) (j9 P E true c.toList d (jv c.toList []) (K .normal (d+c.size)) c.toList 0 S [] [])
 | .seq a b,K,d,S=>fO a (fun e g h=>match e with | .normal=>fO b K g h|e=>K e g h) d S
 | .cond x t e, K, d, S => match S.ev E x with
   | .bool b=>cond b (fO t K d S) (fO e K d S)
   | _=>False
 | .block id k, K, d, S => fO k (fun e g h => match e with
   | .exit j=>cond (beq j id) (K .normal g h) (K (.exit j) g h)
   | e=>K e g h) d S
 | m,K,d,S=>DW P E rr d m K S
end
section
variable {P:Program} {E:Env} {rr:Bool}
theorem WO {nm nx:Nat}{o:Oper}{S:St}{a:Nat->St->Prop}{K:AX->Nat->St->Prop}(h:xS P E nm nx o S a K):pR P E nm nx o S a K:=by
 obtain⟨b,n,H,x⟩:=S;simp only[xS] at h;cases A:cv ⟨b,n,H,x⟩ o.dst with
 | false=>grind
 | true =>
   rw[A] at h;refine⟨A,?_⟩;simp only[cond_true] at h;split at h
   . rename_i f z D d
     rw[d];show pQ P E nx _ _ _ _ _ _;unfold call3 at h;unfold pQ;split at h
     . rename_i g t B i
       try rw[i]
       have:=gp (fun _ _ h=>AV.gm h) h
       refine DC.mono this fun s m p l=>?_
       cases s with
       | ret v=>exact oP l
       | aU v=>exact l
     . rename_i k i
       try rw[i]
       have:=gp (fun _ _ h=>AV.gm h) h
       refine DY.mono this fun s m p l=>?_
       cases s with
       | ret v=>exact oP l
       | aU v=>exact l
     grind
   . rename_i y d
     have:(cf E nm (St.ev E ⟨b,n,H,x⟩) (.panic y)).holds H (fun c=>a nx ((⟨b,n,H,x⟩:St).put o.dst c.val (bo.dK H c.up) 0)) (fun v=>K (.aU v) nx ⟨b,n,H,x⟩):=
      Rd.kf (fun e u=>oP (vu (k:=fun m=>ko b n o.dst e.val m (a nx)) u)) (fun v w=>AV.gm (k:=fun C=>K (.aU C) nx ⟨b,n,H,x⟩) w) (Rd.qa h)
     grind
   . rename_i d _
     have:(cf E nm (St.ev E ⟨b,n,H,x⟩) o.op).holds H (fun c=>a nx ((⟨b,n,H,x⟩:St).put o.dst c.val (bo.dK H c.up) 0)) (fun v=>K (.aU v) nx ⟨b,n,H,x⟩):=
      Rd.kf (fun e u=>oP (vu (k:=fun m=>ko b n o.dst e.val m (a nx)) u)) (fun v w=>w) (Yv (Kp:=fun v=>K (.aU v) nx ⟨b,n,H,x⟩) h)
     grind
theorem ui {ops:List Oper}{c:Nat}{K:AX->Nat->St->Prop}:∀(a:List Oper) {i nx:Nat} {S:St},pP P E ops c K a i nx S->jx P E ops c K a i nx S
 | [],i,nx,S,h=>h
 | o :: a, i, nx, S, h => by
   have r:xS P E (c+i) nx o S (pP P E ops c K a (i+1)) K->pR P E (c+i) nx o S (jx P E ops c K a (i+1)) K:=by
    intro h;obtain⟨j,h⟩:=WO h;refine⟨j,?_⟩;split at h
    . unfold pQ at h ⊢
      split at h
      . refine DC.mono h fun g p k d => ?_
        cases g with
        | ret v=>exact ui a d
        | aU v=>exact d
      . refine DY.mono h fun g p k d => ?_
        cases g with
        | ret v=>exact ui a d
        | aU v=>exact d
      omega
    . exact Rd.kf (fun e q=>ui a q) (fun _ h=>h) h
   have s:(match S with|⟨f,n,H,x⟩=>cond (cv ⟨f,n,H,x⟩ o.dst) (ko f n o.dst (.ao []) H (pP P E ops c K a (i+1) nx)) False)->(cv S o.dst=true∧jx P E ops c K a (i+1) nx (S.put o.dst (.ao []) S.heap 0)):=by
    obtain⟨f,n,H,x⟩:=S;intro h;dsimp only at h;cases j:cv ⟨f,n,H,x⟩ o.dst with
    | false=>grind
    | true =>
      rw[j] at h;exact⟨rfl,ui a (oP h)⟩
   simp only[pP,ou] at h;simp only[jx,gate]
   grind
theorem wB {c:List Nat}{i:Nat}{rds:List Nat}{f:List (Nat×Option an)}{acc d:List (Nat×List Nat×List Nat)}(m:∀p∈acc,p.2.2≠[]->p∈d)(v:AV)(h:gJ c i rds f acc d=true):jH c i ⟨v,f,rds⟩ acc=true:=by
 cases f with
 | nil =>
   simp only[gJ,zbr] at h;simp only[jH,DE.keys,all_nil,zdc,map_nil,zbr]
   rintro⟨j,r,k⟩ l
   cases k with
   | nil=>simp[kc]
   | cons a k =>
     have:=h _ (m _ l ag);simp only[zbQ] at this ⊢;rcases this with h|h
     . exact .inr bD
     grind
 | cons a f =>
   simp only[gJ,zbe,zbr] at h;simp only[jH,zbe,zbr];refine⟨h.1,?_⟩
   rintro⟨j,r,k⟩ l
   have:=h.2 _ l;simp only[zbQ] at this ⊢;exact this.symm
theorem Qp {a:List Nat}{i:Nat}{rds:List Nat}{d:List (Nat×Option an)}{acc b:List (Nat×List Nat×List Nat)}{X:Prop}(h:ug a i rds d acc b X):cond (gJ a i rds d acc b) X False:=by
 unfold ug at h;split at h
 . exact h
 exact h.c
theorem vS {S:St}{o:Oper}{v:AV}{b:List (Nat×Option an)}{rds:List Nat}{k:St->Prop}{n:Nat}(h:lr S o.dst v b k):∃S',k S'∧(S.at_ n).app o ⟨v,b,rds⟩=S'.at_ n:=by
 have:=vu h;unfold St.app St.put;cases c:o.dst with
 | none=>rw[c] at this;exact⟨_,this,rfl⟩
 | some d=>rw[c] at this;exact⟨_,this,rfl⟩
theorem v7 {D:Bool}{ops:List Oper}{k:Nat}{c:List Nat}{K:St->Prop}{n:Nat}:∀(g:List Oper) {i:Nat} {S:St} {acc r:List (Nat×List Nat×List Nat)},(∀p∈acc,p.2.2≠[]->p∈r)->
 j9 P E D ops k c K g i S acc r->∃S',K S'∧fW P E ops k c (fun s=>s=S'.at_ n) g i (S.at_ n) acc
 | [],i,S,acc,r,_,h=>⟨S,h,rfl⟩
 | o :: g, i, S, acc, r, U, h => by
   have R : (CW P E D (k + i) o S fun v t q => ug c i q t acc r (lr S o.dst v t fun S'=>match t with
    | []=>j9 P E D ops k c K g (i+1) S' ((i,q,[])::acc) r
    | t=>j9 P E D ops k c K g (i+1) S' ((i,q,t.map (·.1))::acc) ((i,q,t.map (·.1))::r)))->
    ∃S',K S'∧mY P E (k+i) o (S.at_ n) fun d=>jH c i d acc=true∧fW P E ops k c (fun s=>s=S'.at_ n) g (i+1) ((S.at_ n).app o d) ((i,d.rds,d.keys)::acc):=by
    intro h;have N : ∀ v t q, (ug c i q t acc r (lr S o.dst v t fun S'=>match t with
     | []=>j9 P E D ops k c K g (i+1) S' ((i,q,[])::acc) r
     | t=>j9 P E D ops k c K g (i+1) S' ((i,q,t.map (·.1))::acc) ((i,q,t.map (·.1))::r)))->
     ∃S',K S'∧jH c i ⟨v,t,q⟩ acc=true∧fW P E ops k c (fun s=>s=S'.at_ n) g (i+1) ((S.at_ n).app o ⟨v,t,q⟩) ((i,q,t.map (·.1))::acc):=by
     intro v t q h
     replace h:=Qp h
     cases O:gJ c i q t acc r with
     | false=>grind
     | true =>
       rw[O] at h;simp only[cond_true] at h;obtain⟨Y,C,L⟩:=vS (n:=n) (rds:=q) h;rw[L];cases t with
       | nil =>
         dsimp only at C;obtain ⟨S', w, y⟩ := v7 g (fun p R I=>by
          grind) C
         exact⟨S',w,wB U v O,y⟩
       | cons a t =>
         dsimp only at C;obtain ⟨S', w, y⟩ := v7 g (fun p R I=>by
          grind) C
         exact⟨S',w,wB U v O,y⟩
    obtain⟨M,m,H,x⟩:=S;simp only[CW] at h;cases F:cv ⟨M,m,H,x⟩ o.dst with
    | false=>grind
    | true =>
      rw[F] at h;simp only[cond_true] at h;unfold mY;split at h
      . rename_i f V ts B
        have h:=gp (fun _ _ h=>AV.gm h) (AV.gm h)
        rcases h with⟨v,q,z,h⟩|⟨v,t,z,h⟩|⟨v,q,t,z,h⟩
        . obtain ⟨S', w, y, G⟩ := N v [] q (AV.oo h)
          refine⟨S',w,F,?_⟩;rw[B];exact .inl ⟨v,q,z,y,G⟩
        . obtain ⟨S', w, y, G⟩ := N v t [] (AV.oo h)
          refine⟨S',w,F,?_⟩;rw[B];exact .inr (.inl ⟨v,t,z,y,G⟩)
        . obtain ⟨S', w, y, G⟩ := N v t q (AV.oo h)
          refine⟨S',w,F,?_⟩;rw[B];exact .inr (.inr ⟨v,q,t,z,y,G⟩)
      . rename_i B
        obtain⟨e,l,C,L⟩:=Rd.qd (Rd.ov (KN h));obtain⟨S',w,y,G⟩:=N e.val e.up l (AV.oo C);refine⟨S',w,F,?_⟩;have:(cf E (k+i) (St.ev E ((⟨M,m,H,x⟩:St).at_ n)) o.op).gP ((⟨M,m,H,x⟩:St).at_ n).heap (fun A l=>jH c i ⟨A.val,A.up,l⟩ acc=true∧fW P E ops k c (fun s=>s=S'.at_ n) g (i+1) (((⟨M,m,H,x⟩:St).at_ n).app o ⟨A.val,A.up,l⟩) ((i,l,A.up.map (·.1))::acc)) []:=
         Rd.oz (fun Z l' he=>by grind) L
        split
        . grind
        . exact this
   have hq:cond (cv S o.dst) (lr S o.dst (.ao []) [] fun S'=>j9 P E D ops k c K g (i+1) S' ((i,[],[])::acc) r) False->
    ∃S',K S'∧cv S o.dst=true∧fW P E ops k c (fun s=>s=S'.at_ n) g (i+1) ((S.at_ n).app o ⟨.ao [],[],[]⟩) ((i,[],[])::acc):=by
    intro h;cases F:cv S o.dst with
    | false=>grind
    | true =>
      rw[F] at h;simp only[cond_true] at h;obtain⟨Y,C,L⟩:=vS (n:=n) (rds:=[]) h;rw[L];obtain ⟨S', w, y⟩ := v7 g (fun p R I=>by
       grind) C
      exact⟨S',w,rfl,y⟩
   have Q:∀j b,gO ops (S.at_ n) j b=gO ops S j b:=fun _ _=>rfl
   have J:cv (S.at_ n) o.dst=cv S o.dst:=rfl;simp only[j9,ou] at h;simp only[fW,gate,Q,J]
   grind
theorem Gn {ops:Array Oper}(h:iX ops.toList=true):oi ops.toList 0=true∧y4 ops (jv ops.toList [])=true:=by
 simp[iX] at h;exact h
theorem DW.draw (c:bZ P E)(a:P.follows .mixedOrders=true){id:Nat}{ops:Array Oper}{nx:Nat}{K:AX->Nat->St->Prop}{S:St}(d:iX ops.toList=true)
 {e:Bool}(h:j9 P E e ops.toList nx (jv ops.toList []) (K .normal (nx+ops.size)) ops.toList 0 S [] []):DW P E rr nx (.region id ops true) K S:=by
 obtain⟨g,f,i⟩:=v7 _ (ag) h;obtain⟨j,b⟩:=Gn d;exact⟨.normal,nx+ops.size,g,SW.draw c a j b (t_ (fun s b=>⟨rfl,b⟩) _ i),f⟩
theorem DW.gr (o:bZ P E)(f:P.follows .mixedOrders=true):∀(code:Code) {K:AX->Nat->St->Prop} {nx:Nat} {S:St},fO P E rr code K nx S->DW P E rr nx code K S
 | .skip,K,nx,S,h=>DW.kR o (code := .skip) h
 | .label l,K,nx,S,h=>DW.kR o (code := .label l) h
 | .exit i,K,nx,S,h=>DW.kR o (code := .exit i) h
 | .goto l,K,nx,S,h=>DW.kR o (code := .goto l) h
 | .ret,K,nx,S,h=>DW.kR o (code := .ret) h
 | .region id A false,K,nx,S,h=>DW.kR o (code := .region id A false) (ui A.toList h)
 | .region _ A true, K, nx, S, h => by
   obtain⟨k,g⟩:=h;cases g with
   | e g=>exact DW.draw o f k g
   | l g=>exact DW.draw o f k g
 | .seq x y, K, nx, S, h => by
   obtain⟨z,d,n,k,g⟩:=DW.gr o f x h;cases z with
   | normal =>
     obtain⟨Q,R,T,I,F⟩:=DW.gr o f y g;refine⟨Q,R,T,SW.seq (k.mono fun e s p=>?_),F⟩
     grind
   | exit i=>exact⟨_,d,n,SW.seq (k.mono fun e s p=>by grind),g⟩
   | goto i=>exact⟨_,d,n,SW.seq (k.mono fun e s p=>by grind),g⟩
   | ret=>exact⟨_,d,n,SW.seq (k.mono fun e s p=>by grind),g⟩
   | aU v=>exact⟨_,d,n,SW.seq (k.mono fun e s p=>by grind),g⟩
 | .cond x t e, K, nx, S, h => by
   simp only[fO] at h;cases N:S.ev E x<;>rw[N] at h<;>first|exact h.elim|skip
   rename_i b;cases b with
   | true =>
     obtain⟨z,d,n,I,F⟩:=DW.gr o f t h;refine⟨z,d,n,fun r u m J c a w G=>?_,F⟩
     have B:=G.ev x;rw[show(S.at_ nx).ev E x = .bool true from N] at B
     generalize O:a.eval x=v at B
     cases B;exact wpIn_cond O (I r u m J c a w G)
   | false =>
     obtain⟨z,d,n,I,F⟩:=DW.gr o f e h;refine⟨z,d,n,fun r u m J c a w G=>?_,F⟩
     have B:=G.ev x;rw[show(S.at_ nx).ev E x = .bool false from N] at B
     generalize O:a.eval x=v at B
     cases B;exact wpIn_cond O (I r u m J c a w G)
 | .block id H, K, nx, S, h => by
   obtain⟨z,d,n,k,g⟩:=DW.gr o f H h;cases z with
   | exit j =>
     by_cases V:j=id
     . subst V
       dsimp only at g;rw[show beq j j=true by simp] at g
       exact⟨.normal,d,n,SW.block (k.mono fun e s p=>by grind),g⟩
     . dsimp only at g
       rw[show beq j id=false by
        cases e:beq j id with
        | false=>rfl
        | true=>simp_all] at g
       exact⟨.exit j,d,n,SW.block (k.mono fun e s p=>by grind),g⟩
   | normal=>exact⟨_,d,n,SW.block (k.mono fun e s p=>by grind),g⟩
   | goto i=>exact⟨_,d,n,SW.block (k.mono fun e s p=>by grind),g⟩
   | ret=>exact⟨_,d,n,SW.block (k.mono fun e s p=>by grind),g⟩
   | aU v=>exact⟨_,d,n,SW.block (k.mono fun e s p=>by grind),g⟩
 | .loop _,K,nx,S,h=>h
 | .rangeFunc ..,K,nx,S,h=>h
 | .scope _,K,nx,S,h=>h
 | .refuse _,K,nx,S,h=>h
def nk:List AV->Nat->Tr AV->(Tr AV->Prop)->Prop
 | [],_,t,k=>k t
 | x::l,i,t,k=>fN (i+1) fun b=>nk l b (.put i (some x) t) k
theorem sa:∀{l:List AV} {i:Nat} {t:Tr AV} {k:Tr AV->Prop},nk l i t k->k (qh l i t)
 | [],_,_,_,h=>h
 | _::l,_,_,_,h=>sa (l:=l) (rN h)
theorem uJ {args:List AV}{n:Nat}(a:ble args.length n=true)(H:aj):St.init args n H 0=⟨qh args 0 .nil,n,H,0⟩:=by
 have:=zbb a;unfold St.init
 grind
theorem DP.gr {f:FuncId}{a:Func}{code:Code}{args:List AV}{Q:AE->Prop}(c:bZ P E)(b:P.follows .mixedOrders=true)(k:P.funcs[f]? = some a)(i:a.body=some code)(g:a.name ≠ "runtime.NumGoroutine")
 (d:ble args.length a.ntmps=true)(j:blt a.ntmps 1000000=true)(h:fL AV.f1 args fun args'=>nk args' 0 .nil fun l=>fO P E false code (fun e _ S=>ji E a Q e S) 0 ⟨l,a.ntmps,.nil,0⟩):DP P E f args Q:=by
 have n:=zbb d;have m:=by simpa using j
 refine DP.nC c k i g aa ?_;rw[uJ d];exact DW.gr c b _ (sa (gp (fun _ _ h=>AV.gm h) h))
theorem DC.gr {f:FuncId}{a:Func}{code:Code}{args:List AV}{H:aj}{nx:Nat}{R:AE->aj->Nat->Prop}(c:bZ P E)(b:P.follows .mixedOrders=true)(j:P.funcs[f]? = some a)(g:a.body=some code)(e:a.name ≠ "runtime.NumGoroutine")
 (d:ble args.length a.ntmps=true)(i:blt a.ntmps 1000000=true)(h:fL AV.f1 args fun args'=>nk args' 0 .nil fun k=>fO P E false code (qE E a R) nx ⟨k,a.ntmps,H,0⟩):DC P E f args H nx R:=by
 have m:=zbb d;have l:=by simpa using i
 refine DC.nC c j g e aa ?_;rw[uJ d];exact DW.gr c b _ (sa (gp (fun _ _ h=>AV.gm h) h))
end
end Go.Ago
end
namespace Go.Ago
open List Nat
def fT (R:AV->AV->Prop):List AV->List AV->Prop
 | [],[]=>True
 | x::b,y::c=>R x y∧fT R b c
 | _,_=>False
def gg (x y:AV):Prop:=y=x∨(x = .ai∧∃a,y = .ak a [])
def mN (x y:AV):Prop:=gg x y∨∃b a,x = .agg b∧y = .agg a∧fT gg b a
def n0 (x y:AV):Prop:=mN x y∨∃b a,x = .ao b∧y = .ao a∧fT mN b a
theorem qo {R:AV->AV->Prop}{c:Ctx}{w:World}(d:∀x y v,R x y->Rel c w x v->Rel c w y v):∀{xs ys:List AV} {vs:List Value},fT R xs ys->aP c w xs vs->aP c w ys vs
 | [],[],_,_,h=>h
 | x :: xs, y :: ys, vs, a, h => by
   obtain⟨v,g,rfl,f,e⟩:=h.dP;exact .cons (d _ _ _ a.1 f) (qo d a.2 e)
 | [],_::_,_,a,_=>a.elim
 | _::_,[],_,a,_=>a.elim
theorem gg.rel {c:Ctx}{w:World}{x y:AV}{v:Value}(h:gg x y)(a:Rel c w x v):Rel c w y v:=by
 rcases h with rfl|⟨rfl,b,rfl⟩
 . exact a
 cases a;exact .fh _
theorem mN.rel {c:Ctx}{w:World}{x y:AV}{v:Value}(h:mN x y)(e:Rel c w x v):Rel c w y v:=by
 rcases h with h|⟨i,j,rfl,rfl,h⟩
 . exact h.rel e
 cases e with
 | agg f e =>
   have:=qo (fun _ _ _ a b=>gg.rel a b) h ⟨f,e⟩
   exact .agg this.1 this.2
theorem n0.rel {c:Ctx}{w:World}{x y:AV}{v:Value}(h:n0 x y)(e:Rel c w x v):Rel c w y v:=by
 rcases h with h|⟨i,j,rfl,rfl,h⟩
 . exact h.rel e
 cases e with
 | ao f e =>
   have:=qo (fun _ _ _ a b=>mN.rel a b) h ⟨f,e⟩
   exact .ao this.1 this.2
theorem DP.oG {P:Program}{E:Env}{g:FuncId}{args:List AV}{Q f:AE->Prop}(h:DP P E g args Q)(i:∀a,Q a->∃x y,a = .ret x∧n0 x y∧f (.ret y)):DP P E g args f:=by
 obtain⟨a,d,j⟩:=h;obtain⟨x,y,rfl,k,m⟩:=i _ j;refine⟨.ret y,⟨d.1,fun c w t n o p=>(d.2 c w _ n o p).mono ?_⟩,m⟩
 rintro e u ⟨l,a,r,q,s,b,rfl⟩
 refine⟨l,.ret y,r,q,s,?_,rfl⟩;cases e<;>first|exact b.elim|exact k.rel b
theorem gg.r {x:AV}:gg x x := .inl rfl
theorem gg.n {sz:Nat}:gg .ai (.ak sz []) := .inr (ag)
theorem mN.r {x:AV}:mN x x := .inl .r
end Go.Ago
