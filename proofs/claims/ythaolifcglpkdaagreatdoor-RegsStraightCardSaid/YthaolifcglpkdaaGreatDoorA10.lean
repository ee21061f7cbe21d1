/-
  Part 10: lemmas, each with its own conditions.
-/
import Derived.Test.YthaolifcglpkdaaGreatDoorA09
set_option maxRecDepth 100000
set_option maxHeartbeats 0
set_option linter.all false
section
namespace Go.Ago
section
variable {P:Program} {E:Env} {rr:Bool}
theorem AC.mono {g:FuncId}{args:List AV}{H:zah}{nx:Nat}{R R':AE→zah→Nat→Prop}(h:AC P E g args H nx R)(hr:∀ae H nx,R ae H nx→R' ae H nx):AC P E g args H nx R':=
 ⟨h.1,fun c w vs h1 h2 h3=>(h.2 c w vs h1 h2 h3).mono fun _ _ ⟨c',H',nx',ae,g1,g2,g3,g4,g5,g6⟩=>⟨c',H',nx',ae,g1,g2,g3,g4,g5,hr _ _ _ g6⟩⟩
theorem AY.mono {k:Nat}{args:List AV}{H:zah}{nx:Nat}{R R':AE→zah→Nat→Prop}(h:AY P E k args H nx R)(hr:∀ae H nx,R ae H nx→R' ae H nx):AY P E k args H nx R':=by
 intro c w vs h1 h2 h3;obtain⟨B,rec,g1,g2,g3,g4⟩:=h c w vs h1 h2 h3;exact⟨B,rec,g1,g2,g3,g4.mono fun _ _ ⟨c',H',nx',ae,k1,k2,k3,k4,k5,k6⟩=>⟨c',H',nx',ae,k1,k2,k3,k4,k5,hr _ _ _ k6⟩⟩
theorem Rd.holds_mono {H:zah}{K K':Eff→Prop}{Kp Kp':AV→Prop}(hk:∀e,K e→K' e)(hp:∀v,Kp v→Kp' v):∀{r:Rd},r.holds H K Kp→r.holds H K' Kp'
 | .ret e,h=>hk e h
 | .pan v,h=>hp v h
 | .rd k f, h => by
   simp only[holds] at h ⊢;cases e:H.get k with
   | none=>rw[e] at h;exact h.elim
   | some o=>rw[e] at h;exact holds_mono hk hp h
 | .req b r,h=>⟨h.1,holds_mono hk hp h.2⟩
 | .br b r s,h=>⟨fun e=>holds_mono hk hp (h.1 e),fun e=>holds_mono hk hp (h.2 e)⟩
 | .opt o f, h => by
   obtain⟨x,hx,h⟩:=h;exact⟨x,hx,holds_mono hk hp h⟩
 | .fail,h=>h.elim
theorem zwk {nm:Nat}{o:Oper}{S:St}{next next':St→Prop}{K K':AX→St→Prop}(hn:∀s,next s→next' s)(hk:∀e s,K e s→K' e s)(h:aop P E nm o S next K):aop P E nm o S next' K':=by
 obtain⟨hd,h⟩:=h;refine⟨hd,?_⟩;split at h
 · unfold zt2 at h ⊢
   split at h
   · refine AC.mono h fun ae H nx hr => ?_
     cases ae with
     | ret v=>exact hn _ hr
     | pan v=>exact hk _ _ hr
   · refine AY.mono h fun ae H nx hr => ?_
     cases ae with
     | ret v=>exact hn _ hr
     | pan v=>exact hk _ _ hr
   · exact h.elim
 · exact Rd.holds_mono (fun _ h=>hn _ h) (fun _ h=>hk _ _ h) h
theorem zht {ops:List Oper}{base:Nat}{K K':AX→St→Prop}(hk:∀e s,K e s→K' e s):∀(rest:List Oper) {i:Nat} {S:St},zik P E ops base K rest i S→zik P E ops base K' rest i S
 | [],i,S,h=>hk _ _ h
 | o :: rest, i, S, h => by
   simp only[zik,gate] at h ⊢;cases hg:o.guard with
   | none=>rw[hg] at h;exact zwk (fun _ h=>zht hk rest h) hk h
   | some p =>
     obtain⟨j,want⟩:=p;rw[hg] at h;dsimp only at h ⊢;cases hv:zcx ops S j want with
     | none=>rw[hv] at h;exact h.elim
     | some b =>
       rw[hv] at h;dsimp only at h ⊢;exact⟨fun hb=>zwk (fun _ h=>zht hk rest h) hk (h.1 hb),fun hb=>⟨(h.2 hb).1,zht hk rest (h.2 hb).2⟩⟩
theorem zc5:∀(code:Code) {K K':AX→St→Prop} {S:St},(∀e s,K e s→K' e s)→aw P E rr code K S→aw P E rr code K' S
 | .skip,K,K',S,hk,h=>hk _ _ h
 | .label _,K,K',S,hk,h=>hk _ _ h
 | .exit i,K,K',S,hk,h=>hk _ _ h
 | .goto l,K,K',S,hk,h=>hk _ _ h
 | .ret,K,K',S,hk,h=>hk _ _ h
 | .region _ ops false,K,K',S,hk,h=>zht hk _ h
 | .region _ ops true,K,K',S,hk,h=>SW.mono h hk
 | .seq x y, K, K', S, hk, h => zc5 x (fun e s he=>by
  cases e<;>first|exact zc5 y hk he|exact hk _ _ he) h
 | .cond x t e, K, K', S, hk, h => by
   simp only[aw] at h ⊢;cases hx:S.ev E x<;>rw[hx] at h<;>first|exact h.elim|skip
   exact⟨fun hb=>zc5 t hk (h.1 hb),fun hb=>zc5 e hk (h.2 hb)⟩
 | .block id body, K, K', S, hk, h => zc5 body (fun e s he=>by
  cases e<;>first|exact⟨fun hj=>hk _ _ (he.1 hj),fun hj=>hk _ _ (he.2 hj)⟩|exact hk _ _ he) h
 | .loop _,K,K',S,hk,h=>SW.mono h hk
 | .rangeFunc ..,K,K',S,hk,h=>SW.mono h hk
 | .scope _,K,K',S,hk,h=>SW.mono h hk
 | .refuse _,K,K',S,hk,h=>SW.mono h hk
end
def DC (P:Program)(E:Env)(g:FuncId)(args:List AV)(H:zah)(nx:Nat)(R:AE→zah→Nat→Prop):Prop:=
 ∃ae H' nx',AC P E g args H nx (fun a h n=>a=ae∧h=H'∧n=nx')∧R ae H' nx'
def DP (P:Program)(E:Env)(g:FuncId)(args:List AV)(Q:AE→Prop):Prop:=∃ae,PC P E g args (·=ae)∧Q ae
def DY (P:Program)(E:Env)(k:Nat)(args:List AV)(H:zah)(nx:Nat)(R:AE→zah→Nat→Prop):Prop:=
 ∃ae H' nx',AY P E k args H nx (fun a h n=>a=ae∧h=H'∧n=nx')∧R ae H' nx'
def DW (P:Program)(E:Env)(rr:Bool)(nx:Nat)(code:Code)(K:AX→Nat→St→Prop)(S:St):Prop:=
 ∃ax nx' S',SW P E rr code (fun a s=>a=ax∧s=S'.at_ nx') (S.at_ nx)∧K ax nx' S'
def zrm (P:Program)(E:Env)(nx:Nat)(f:AV)(args:List AV)(S:St)(dst:Option Tmp)(next:Nat→St→Prop)(K:AX→Nat→St→Prop):Prop:=
 match f with
 | .fn (.func g) first cap => DC P E g (first ++ args ++ cap) S.heap nx fun ae H' nx' => match ae with
   | .ret v=>next nx' (S.put dst v H' 0)
   | .pan v=>K (.pan v) nx' (S.put none .any H' 0)
 | .mapp k => DY P E k args S.heap nx fun ae H' nx' => match ae with
   | .ret v=>next nx' (S.put dst v H' 0)
   | .pan v=>K (.pan v) nx' (S.put none .any H' 0)
 | _=>False
def dop1 (P:Program)(E:Env)(nm nx:Nat)(o:Oper)(S:St)(next:Nat→St→Prop)(K:AX→Nat→St→Prop):Prop:=
 zbw S o.dst=true∧match o.op with
  | .call { callee := .value f,args,.. }=>zrm P E nx (S.ev E f) (args.toList.map (S.ev E)) S o.dst next K
  | op=>(sem E nm (S.ev E) op).holds S.heap (fun eff=>next nx (S.put o.dst eff.val (Eff.upd S.heap eff.up) 0)) (fun v=>K (.pan v) nx S)
def zer (P:Program)(E:Env)(ops:List Oper)(base:Nat)(K:AX→Nat→St→Prop):List Oper→Nat→Nat→St→Prop
 | [],_,nx,S=>K .normal nx S
 | o::rest,i,nx,S=>gate ops S o.guard (dop1 P E (base+i) nx o S (zer P E ops base K rest (i+1)) K) (zbw S o.dst=true∧zer P E ops base K rest (i+1) nx (S.put o.dst (.tup []) S.heap 0))
def daw (P:Program)(E:Env)(rr:Bool):Code→(AX→Nat→St→Prop)→Nat→St→Prop
 | .skip,K,nx,S=>K .normal nx S
 | .label _,K,nx,S=>K .normal nx S
 | .exit i,K,nx,S=>K (.exit i) nx S
 | .goto l,K,nx,S=>K (.goto l) nx S
 | .ret,K,nx,S=>K .ret nx S
 | .region _ ops false,K,nx,S=>zer P E ops.toList nx K ops.toList 0 (nx+ops.size) S
 | .seq a b,K,nx,S=>daw P E rr a (fun e nx' S'=>match e with | .normal=>daw P E rr b K nx' S'|e=>K e nx' S') nx S
 | .cond x t e, K, nx, S => match S.ev E x with
   | .bool b=>(b=true→daw P E rr t K nx S)∧(b=false→daw P E rr e K nx S)
   | _=>False
 | .block id body, K, nx, S => daw P E rr body (fun e nx' S' => match e with
   | .exit j=>(j=id→K .normal nx' S')∧(j≠id→K (.exit j) nx' S')
   | e=>K e nx' S') nx S
 | code,K,nx,S=>DW P E rr nx code K S
section
variable {P:Program} {E:Env} {rr:Bool}
theorem Rd.holds_one {H:zah}{K:Eff→Prop}{Kp:AV→Prop}:∀{r:Rd},r.holds H K Kp→(∃e,K e∧r.holds H (·=e) (fun _=>False))∨(∃v,Kp v∧r.holds H (fun _=>False) (·=v))
 | .ret e,h => .inl ⟨e,h,rfl⟩
 | .pan v,h => .inr ⟨v,h,rfl⟩
 | .rd k f, h => by
   simp only[holds] at h ⊢;cases e:H.get k with
   | none=>rw[e] at h;exact h.elim
   | some o=>rw[e] at h;exact holds_one h
 | .req b r, h => by
   obtain⟨rfl,h⟩:=h;rcases holds_one (r:=r) h with⟨e,h1,h2⟩|⟨e,h1,h2⟩
   · exact .inl ⟨e,h1,rfl,h2⟩
   · exact .inr ⟨e,h1,rfl,h2⟩
 | .br b r s, h => by
   cases b with
   | true =>
     rcases holds_one (r:=r) (h.1 rfl) with⟨e,h1,h2⟩|⟨e,h1,h2⟩
     · exact .inl ⟨e,h1,fun _=>h2,fun h=>by cases h⟩
     · exact .inr ⟨e,h1,fun _=>h2,fun h=>by cases h⟩
   | false =>
     rcases holds_one (r:=s) (h.2 rfl) with⟨e,h1,h2⟩|⟨e,h1,h2⟩
     · exact .inl ⟨e,h1,(fun h=>by cases h),fun _=>h2⟩
     · exact .inr ⟨e,h1,(fun h=>by cases h),fun _=>h2⟩
 | .opt o f, h => by
   obtain⟨x,rfl,h⟩:=h;rcases holds_one (r:=f x) h with⟨e,h1,h2⟩|⟨e,h1,h2⟩
   · exact .inl ⟨e,h1,x,rfl,h2⟩
   · exact .inr ⟨e,h1,x,rfl,h2⟩
 | .fail,h=>h.elim
abbrev Ex1 (ax:AX)(nx:Nat)(S:St):AX→St→Prop:=fun a s=>a=ax∧s=S.at_ nx
theorem yjv {nm nx:Nat}{o:Oper}{S:St}{next:Nat→St→Prop}{K:AX→Nat→St→Prop}(h:dop1 P E nm nx o S next K) :
 (∃nx' S',next nx' S'∧∀(N:St→Prop) (Q:AX→St→Prop),N (S'.at_ nx')→aop P E nm o (S.at_ nx) N Q)∨(∃v nx' S',K (.pan v) nx' S'∧∀(N:St→Prop) (Q:AX→St→Prop),Q (.pan v) (S'.at_ nx')→aop P E nm o (S.at_ nx) N Q):=by
 obtain⟨hd,h⟩:=h;have prim:∀op,o.op=op→(sem E nm (S.ev E) op).holds S.heap (fun eff=>next nx (S.put o.dst eff.val (Eff.upd S.heap eff.up) 0)) (fun v=>K (.pan v) nx S) →
  (∃nx' S',next nx' S'∧∀(N:St→Prop) (Q:AX→St→Prop),N (S'.at_ nx')→(sem E nm (S.ev E) op).holds S.heap (fun eff=>N ((S.at_ nx).put o.dst eff.val (Eff.upd S.heap eff.up) nx)) (fun v=>Q (.pan v) (S.at_ nx))) ∨
  (∃v nx' S',K (.pan v) nx' S'∧∀(N:St→Prop) (Q:AX→St→Prop),Q (.pan v) (S'.at_ nx')→(sem E nm (S.ev E) op).holds S.heap (fun eff=>N ((S.at_ nx).put o.dst eff.val (Eff.upd S.heap eff.up) nx)) (fun v=>Q (.pan v) (S.at_ nx))):=by
  intro op _ h;rcases Rd.holds_one h with⟨e,h1,h2⟩|⟨v,h1,h2⟩
  · exact .inl ⟨nx,_,h1,fun N Q hN=>Rd.holds_mono (fun e' he=>by subst he;exact hN) (fun _ h=>h.elim) h2⟩
  · exact .inr ⟨v,nx,S,h1,fun N Q hQ=>Rd.holds_mono (fun _ h=>h.elim) (fun v' hv=>by subst hv;exact hQ) h2⟩
 split at h
 · rename_i f args ts hop
   unfold zrm at h;split at h
   · rename_i g first cap hev
     obtain⟨ae,H',nx',hac,hR⟩:=h;have key:∀(N:St→Prop) (Q:AX→St→Prop),(match ae with | .ret v=>N ((S.put o.dst v H' 0).at_ nx') | .pan v=>Q (.pan v) ((S.put none .any H' 0).at_ nx'))→aop P E nm o (S.at_ nx) N Q:=by
      intro N Q hk;refine⟨hd,?_⟩;rw[hop];show zt2 P E ((S.at_ nx).ev E f) _ _ _ _ _;unfold zt2;rw[show(S.at_ nx).ev E f=S.ev E f from rfl,hev]
      refine⟨hac.1,fun c w vs h1 h2 h3=>(hac.2 c w vs h1 h2 h3).mono ?_⟩
      rintro e w' ⟨c',H2,nx2,ae2,g1,g2,g3,g4,g5,rfl,rfl,rfl⟩
      refine⟨c',_,_,_,g1,g2,g3,g4,g5,?_⟩;cases ae2 with
      | ret v=>exact hk
      | pan v=>exact hk
     cases ae with
     | ret v=>exact .inl ⟨nx',_,hR,fun N Q hN=>key N Q hN⟩
     | pan v=>exact .inr ⟨v,nx',_,hR,fun N Q hQ=>key N Q hQ⟩
   · rename_i k hev
     obtain⟨ae,H',nx',hay,hR⟩:=h;have key:∀(N:St→Prop) (Q:AX→St→Prop),(match ae with | .ret v=>N ((S.put o.dst v H' 0).at_ nx') | .pan v=>Q (.pan v) ((S.put none .any H' 0).at_ nx'))→aop P E nm o (S.at_ nx) N Q:=by
      intro N Q hk;refine⟨hd,?_⟩;rw[hop];show zt2 P E ((S.at_ nx).ev E f) _ _ _ _ _;unfold zt2;rw[show(S.at_ nx).ev E f=S.ev E f from rfl,hev]
      refine AY.mono hay ?_
      rintro ae2 H2 nx2 ⟨rfl,rfl,rfl⟩
      cases ae2 with
      | ret v=>exact hk
      | pan v=>exact hk
     cases ae with
     | ret v=>exact .inl ⟨nx',_,hR,fun N Q hN=>key N Q hN⟩
     | pan v=>exact .inr ⟨v,nx',_,hR,fun N Q hQ=>key N Q hQ⟩
   · exact h.elim
 · rename_i hop
   have hk:=prim o.op rfl h;rcases hk with⟨nx',S',h1,h2⟩|⟨v,nx',S',h1,h2⟩
   · refine .inl ⟨nx', S', h1, fun N Q hN => ⟨hd, ?_⟩⟩
     have:=h2 N Q hN;split
     · rename_i f args ts he;exact absurd he (hop f args ts)
     · exact this
   · refine .inr ⟨v, nx', S', h1, fun N Q hN => ⟨hd, ?_⟩⟩
     have:=h2 N Q hN;split
     · rename_i f args ts he;exact absurd he (hop f args ts)
     · exact this
theorem zms {ops:List Oper}{base:Nat}{K:AX→Nat→St→Prop}:∀(rest:List Oper) (i nx:Nat) (S:St),zer P E ops base K rest i nx S →
 ∃ax nx' S',zik P E ops base (Ex1 ax nx' S') rest i (S.at_ nx)∧K ax nx' S'
 | [],i,nx,S,h=>⟨.normal,nx,S,⟨rfl,rfl⟩,h⟩
 | o :: rest, i, nx, S, h => by
   have hg:∀j b,zcx ops (S.at_ nx) j b=zcx ops S j b:=fun _ _=>rfl
   have hrun:dop1 P E (base+i) nx o S (zer P E ops base K rest (i+1)) K→∃ax nx' S',aop P E (base+i) o (S.at_ nx) (zik P E ops base (Ex1 ax nx' S') rest (i+1)) (Ex1 ax nx' S')∧K ax nx' S':=by
    intro h;rcases yjv h with⟨nx',S',h1,h2⟩|⟨v,nx',S',h1,h2⟩
    · obtain ⟨ax, nx2, S2, g1, g2⟩ := zms rest (i + 1) nx' S' h1
      exact⟨ax,nx2,S2,h2 _ _ g1,g2⟩
    · exact⟨.pan v,nx',S',h2 _ _ ⟨rfl,rfl⟩,h1⟩
   have hskip:(zbw S o.dst=true∧zer P E ops base K rest (i+1) nx (S.put o.dst (.tup []) S.heap 0))→∃ax nx' S',(zbw S o.dst=true∧zik P E ops base (Ex1 ax nx' S') rest (i+1) ((S.at_ nx).put o.dst (.tup []) S.heap nx))∧K ax nx' S':=by
    rintro⟨h1,h2⟩
    obtain⟨ax,nx2,S2,g1,g2⟩:=zms rest (i+1) nx _ h2;exact⟨ax,nx2,S2,⟨h1,g1⟩,g2⟩
   simp only[zer,gate] at h;simp only[zik,gate,hg];cases hgd:o.guard with
   | none =>
     rw[hgd] at h;exact hrun h
   | some p =>
     obtain⟨j,want⟩:=p;rw[hgd] at h;dsimp only at h ⊢;cases hv:zcx ops S j want with
     | none=>rw[hv] at h;exact h.elim
     | some b =>
       rw[hv] at h;dsimp only at h ⊢;cases hb:b with
       | true =>
         obtain⟨ax,nx',S',g1,g2⟩:=hrun (h.1 hb);exact⟨ax,nx',S',⟨fun _=>g1,fun h=>by cases h⟩,g2⟩
       | false =>
         obtain⟨ax,nx',S',g1,g2⟩:=hskip (h.2 hb);exact⟨ax,nx',S',⟨(fun h=>by cases h),fun _=>g1⟩,g2⟩
theorem zoe:∀(code:Code) {K:AX→Nat→St→Prop} {nx:Nat} {S:St},daw P E rr code K nx S→∃ax nx' S',aw P E rr code (Ex1 ax nx' S') (S.at_ nx)∧K ax nx' S'
 | .skip,K,nx,S,h=>⟨.normal,nx,S,⟨rfl,rfl⟩,h⟩
 | .label _,K,nx,S,h=>⟨.normal,nx,S,⟨rfl,rfl⟩,h⟩
 | .exit i,K,nx,S,h=>⟨.exit i,nx,S,⟨rfl,rfl⟩,h⟩
 | .goto l,K,nx,S,h=>⟨.goto l,nx,S,⟨rfl,rfl⟩,h⟩
 | .ret,K,nx,S,h=>⟨.ret,nx,S,⟨rfl,rfl⟩,h⟩
 | .region _ ops false, K, nx, S, h => by
   obtain⟨ax,nx',S',h1,h2⟩:=zms ops.toList 0 _ S h;exact⟨ax,nx',S',h1,h2⟩
 | .region _ ops true,K,nx,S,h=>h
 | .seq x y, K, nx, S, h => by
   obtain⟨ax,nx',S',h1,h2⟩:=zoe x h;cases ax with
   | normal =>
     obtain⟨ax2,nx2,S2,g1,g2⟩:=zoe y h2;refine⟨ax2,nx2,S2,?_,g2⟩;exact zc5 x (fun e s he=>by obtain⟨rfl,rfl⟩:=he;exact g1) h1
   | exit i=>exact⟨_,nx',S',zc5 x (fun e s he=>by obtain⟨rfl,rfl⟩:=he;exact⟨rfl,rfl⟩) h1,h2⟩
   | goto l=>exact⟨_,nx',S',zc5 x (fun e s he=>by obtain⟨rfl,rfl⟩:=he;exact⟨rfl,rfl⟩) h1,h2⟩
   | ret=>exact⟨_,nx',S',zc5 x (fun e s he=>by obtain⟨rfl,rfl⟩:=he;exact⟨rfl,rfl⟩) h1,h2⟩
   | pan v=>exact⟨_,nx',S',zc5 x (fun e s he=>by obtain⟨rfl,rfl⟩:=he;exact⟨rfl,rfl⟩) h1,h2⟩
 | .cond x t e, K, nx, S, h => by
   simp only[daw] at h;simp only[aw];rw[show(S.at_ nx).ev E x=S.ev E x from rfl]
   cases hx:S.ev E x<;>rw[hx] at h<;>first|exact h.elim|skip
   rename_i b;cases b with
   | true =>
     obtain⟨ax,nx',S',h1,h2⟩:=zoe t (h.1 rfl);exact⟨ax,nx',S',⟨fun _=>h1,fun h=>by cases h⟩,h2⟩
   | false =>
     obtain⟨ax,nx',S',h1,h2⟩:=zoe e (h.2 rfl);exact⟨ax,nx',S',⟨(fun h=>by cases h),fun _=>h1⟩,h2⟩
 | .block id body, K, nx, S, h => by
   obtain⟨ax,nx',S',h1,h2⟩:=zoe body h;cases ax with
   | exit j =>
     by_cases hj:j=id
     · exact⟨.normal,nx',S',zc5 body (fun e s he=>by obtain⟨rfl,rfl⟩:=he;exact⟨fun _=>⟨rfl,rfl⟩,fun h=>absurd hj h⟩) h1,h2.1 hj⟩
     · exact⟨.exit j,nx',S',zc5 body (fun e s he=>by obtain⟨rfl,rfl⟩:=he;exact⟨fun h=>absurd h hj,fun _=>⟨rfl,rfl⟩⟩) h1,h2.2 hj⟩
   | normal=>exact⟨_,nx',S',zc5 body (fun e s he=>by obtain⟨rfl,rfl⟩:=he;exact⟨rfl,rfl⟩) h1,h2⟩
   | goto l=>exact⟨_,nx',S',zc5 body (fun e s he=>by obtain⟨rfl,rfl⟩:=he;exact⟨rfl,rfl⟩) h1,h2⟩
   | ret=>exact⟨_,nx',S',zc5 body (fun e s he=>by obtain⟨rfl,rfl⟩:=he;exact⟨rfl,rfl⟩) h1,h2⟩
   | pan v=>exact⟨_,nx',S',zc5 body (fun e s he=>by obtain⟨rfl,rfl⟩:=he;exact⟨rfl,rfl⟩) h1,h2⟩
 | .loop _,K,nx,S,h=>h
 | .rangeFunc ..,K,nx,S,h=>h
 | .scope _,K,nx,S,h=>h
 | .refuse _,K,nx,S,h=>h
theorem zcn (hE:EnvOK P E){code:Code}{K:AX→Nat→St→Prop}{nx:Nat}{S:St}(h:daw P E rr code K nx S):DW P E rr nx code K S:=by
 obtain⟨ax,nx',S',h1,h2⟩:=zoe code h;exact⟨ax,nx',S',zhv hE h1,h2⟩
theorem DW.mono {code:Code}{K K':AX→Nat→St→Prop}{nx:Nat}{S:St}(h:DW P E rr nx code K S)(hk:∀e n s,K e n s→K' e n s):DW P E rr nx code K' S:=by
 obtain⟨ax,nx',S',h1,h2⟩:=h;exact⟨ax,nx',S',h1,hk _ _ _ h2⟩
theorem yh8 {fn:Func}{Q:AE→Prop}{e:AX}{S:St}{nx:Nat}(h:retK E fn Q e S):retK E fn Q e (S.at_ nx):=by
 cases e<;>exact h
theorem zwo {f:FuncId}{fn:Func}{code:Code}{args:List AV}{Q:AE→Prop}(hE:EnvOK P E)(hf:P.funcs[f]? = some fn)(hb:fn.body=some code)(hn:fn.name ≠ "runtime.NumGoroutine")
 (hl:args.length<2 ^ 20)(h:DW P E false 0 code (fun e _ S=>retK E fn Q e S) (St.init args fn.ntmps .nil 0)):DP P E f args Q:=by
 obtain⟨ax,nx',S',h1,h2⟩:=h;have key : ∀ ae, (∀ Q' : AE → Prop, Q' ae → retK E fn Q' ax S') → PC P E f args (· = ae) := fun ae hk => yfq hE hf hb hn hl (h1.mono fun e s he=>by
  obtain⟨rfl,rfl⟩:=he;exact yh8 (hk (·=ae) rfl))
 cases ax with
 | normal =>
   simp only[retK] at h2 key;cases hr:resA E fn S' with
   | none=>rw[hr] at h2;exact h2.elim
   | some x =>
     rw[hr] at h2 key;dsimp only at h2 key;cases hs:snap S'.heap 20 x with
     | none=>rw[hs] at h2;exact h2.elim
     | some y=>rw[hs] at h2 key;exact⟨.ret y,key _ fun _ h=>h,h2⟩
 | ret =>
   simp only[retK] at h2 key;cases hr:resA E fn S' with
   | none=>rw[hr] at h2;exact h2.elim
   | some x =>
     rw[hr] at h2 key;dsimp only at h2 key;cases hs:snap S'.heap 20 x with
     | none=>rw[hs] at h2;exact h2.elim
     | some y=>rw[hs] at h2 key;exact⟨.ret y,key _ fun _ h=>h,h2⟩
 | pan v =>
   simp only[retK] at h2 key;cases hs:snap S'.heap 20 v with
   | none=>rw[hs] at h2;exact h2.elim
   | some y=>rw[hs] at h2 key;exact⟨.pan y,key _ fun _ h=>h,h2⟩
 | exit i=>exact h2.elim
 | goto l=>exact h2.elim
def zwz (E:Env)(fn:Func)(R:AE→zah→Nat→Prop):AX→Nat→St→Prop
 | .normal, nx, S | .ret, nx, S => match resA E fn S with
   | some x=>R (.ret x) S.heap nx
   | none=>False
 | .pan v,nx,S=>R (.pan v) S.heap nx
 | _,_,_=>False
theorem zwp {f:FuncId}{fn:Func}{code:Code}{args:List AV}{H:zah}{nx:Nat}{R:AE→zah→Nat→Prop}(hE:EnvOK P E)(hf:P.funcs[f]? = some fn)(hb:fn.body=some code)(hn:fn.name ≠ "runtime.NumGoroutine")
 (hl:args.length<2 ^ 20)(h:DW P E false nx code (zwz E fn R) (St.init args fn.ntmps H 0)):DC P E f args H nx R:=by
 obtain⟨ax,nx',S',h1,h2⟩:=h;have key : ∀ ae, (∀ R' : AE → zah → Nat → Prop, R' ae S'.heap nx' → retH E fn R' ax (S'.at_ nx')) → AC P E f args H nx (fun a h n => a = ae ∧ h = S'.heap ∧ n = nx') := fun ae hk => yfx hE hf hb hn hl (h1.mono fun e s he=>by
  obtain⟨rfl,rfl⟩:=he;exact hk (fun a h n=>a=ae∧h=S'.heap∧n=nx') ⟨rfl,rfl,rfl⟩)
 have hres:resA E fn (S'.at_ nx')=resA E fn S':=rfl;cases ax with
 | normal =>
   simp only[zwz] at h2;simp only[retH,hres] at key;cases hr:resA E fn S' with
   | none=>rw[hr] at h2;exact h2.elim
   | some x=>rw[hr] at h2 key;exact⟨.ret x,_,_,key _ fun _ h=>h,h2⟩
 | ret =>
   simp only[zwz] at h2;simp only[retH,hres] at key;cases hr:resA E fn S' with
   | none=>rw[hr] at h2;exact h2.elim
   | some x=>rw[hr] at h2 key;exact⟨.ret x,_,_,key _ fun _ h=>h,h2⟩
 | pan v=>exact⟨.pan v,_,_,key _ fun _ h=>h,h2⟩
 | exit i=>exact h2.elim
 | goto l=>exact h2.elim
theorem zaa {g:FuncId}{args args':List AV}{H:zah}{nx:Nat}{Q:AE→Prop}{R:AE→zah→Nat→Prop}(hs:mapO (snap .nil 20) args=some args')(h:DP P E g args' Q)(hq:∀ae,Q ae→R ae H nx) :
 DC P E g args H nx R:=by
 obtain⟨ae,h1,h2⟩:=h;exact⟨ae,H,nx,ydb hs h1 (fun a ha=>⟨ha,rfl,rfl⟩),hq ae h2⟩
theorem DC.flat {g:FuncId}{args args':List AV}{H:zah}{nx:Nat}{Q:AE→Prop}{R:AE→zah→Nat→Prop}(hs:mapO (snap H 20) args=some args')(h:DP P E g args' Q)(hq:∀ae,Q ae→ae.flat=true∧R ae H nx) :
 DC P E g args H nx R:=by
 obtain⟨ae,h1,h2⟩:=h;exact⟨ae,H,nx,AC.flat hs h1 (fun a ha=>by subst ha;exact⟨(hq _ h2).1,rfl,rfl,rfl⟩),(hq ae h2).2⟩
theorem DP.mono {g:FuncId}{args:List AV}{Q Q':AE→Prop}(h:DP P E g args Q)(hq:∀ae,Q ae→Q' ae):DP P E g args Q':=by
 obtain⟨ae,h1,h2⟩:=h;exact⟨ae,h1,hq _ h2⟩
theorem DY.mono {k:Nat}{args:List AV}{H:zah}{nx:Nat}{R R':AE→zah→Nat→Prop}(h:DY P E k args H nx R)(hq:∀ae H nx,R ae H nx→R' ae H nx):DY P E k args H nx R':=by
 obtain⟨ae,H',nx',h1,h2⟩:=h;exact⟨ae,H',nx',h1,hq _ _ _ h2⟩
theorem DC.mono {g:FuncId}{args:List AV}{H:zah}{nx:Nat}{R R':AE→zah→Nat→Prop}(h:DC P E g args H nx R)(hq:∀ae H nx,R ae H nx→R' ae H nx):DC P E g args H nx R':=by
 obtain⟨ae,H',nx',h1,h2⟩:=h;exact⟨ae,H',nx',h1,hq _ _ _ h2⟩
end
end Go.Ago
end
