/-
  Part 16: lemmas, each with its own conditions.
-/
import Derived.Test.YthaolifcglpkdaaGreatDoorA15
set_option maxRecDepth 100000
set_option maxHeartbeats 0
set_option linter.all false
section
namespace Go.Ago
def rnd (B:(AX→Nat→St→Prop)→Nat→St→Prop)(K:AX→Nat→St→Prop):Nat→Nat→St→Prop
 | 0,_,_=>False
 | n + 1, nx, S => B (fun e nx' S' => match e with
   | .normal=>rnd B K n nx' S'
   | e=>K e nx' S') nx S
def fzV (nm:Nat)(o:AObj)(x:AV):AV:=match snap (.put nm (some o) .nil) 20 x with
 | some y=>y
 | none=>x
theorem yjc (nm:Nat)(o:AObj)(x:AV):FrzC nm o x (fzV nm o x):=by
 unfold fzV;split
 · rename_i y h;exact .inr h
 · exact .inl rfl
def fzS (f:AV→AV):Tr AV→(Tr AV→Prop)→Prop
 | .nil,K=>K .nil
 | .put k v t, K => fzS f t fun t' => match v with
   | some x=>(f x).f3 fun y=>K (.put k (some y) t')
   | none=>K (.put k none t')
 | _,_=>False
theorem yoj {f:AV→AV}:∀{t:Tr AV} {K:Tr AV→Prop},fzS f t K→∃t',K t'∧∀j y,t'.get j=some y→∃x,t.get j=some x∧y=f x
 | .nil,K,h=>⟨.nil,h,fun j y e=>by cases e⟩
 | .put k v t, K, h => by
   obtain⟨t',h1,h2⟩:=yoj (t:=t) h;cases v with
   | some x =>
     refine⟨_,AV.f3_s (k:=fun y=>K (.put k (some y) t')) h1,fun j y e=>?_⟩
     rw[Tr.get] at e ⊢;cases b:Nat.beq j k with
     | true=>rw[b] at e;cases e;exact⟨x,rfl,rfl⟩
     | false=>rw[b] at e;exact h2 j y e
   | none =>
     refine⟨_,h1,fun j y e=>?_⟩
     rw[Tr.get] at e ⊢;cases b:Nat.beq j k with
     | true=>rw[b] at e;cases e
     | false=>rw[b] at e;exact h2 j y e
 | .node _ _ _,_,h=>h.elim
 | .fam _ _ _ _,_,h=>h.elim
def fzR (f:AV→AV):List (List AV)→(List (List AV)→Prop)→Prop
 | [],K=>K []
 | r::l,K=>fL AV.f3 (r.map f) fun r'=>fzR f l fun l'=>K (r'::l')
theorem yok {f:AV→AV}:∀{l:List (List AV)} {K:List (List AV)→Prop},fzR f l K→K (l.map (List.map f))
 | [],_,h=>h
 | _::l,_,h=>yok (l:=l) (fL_s (fun _ _ h=>AV.f3_s h) h)
def fzH (nm:Nat)(f:AV→AV):zah→(zah→Prop)→Prop
 | .nil,K=>K .nil
 | .put k v t, K => fzH nm f t fun t' => cond (Nat.beq k nm) (K (.put k none t')) (match v with
   | some (.arr sz es)=>fzR f es fun es'=>K (.put k (some (.arr sz es')) t')
   | v=>K (.put k v t'))
 | _,_=>False
theorem yom {nm:Nat}{o:AObj}:∀{t:zah} {K:zah→Prop},fzH nm (fzV nm o) t K→∃t',K t'∧∀j b,t'.get j=some b→j≠nm∧∃a,t.get j=some a∧FrzO nm o a b
 | .nil,K,h=>⟨.nil,h,fun j y e=>by cases e⟩
 | .put k v t, K, h => by
   obtain⟨t',h1,h2⟩:=yom (t:=t) h;have other:∀v',(∀b,v'=some b→k≠nm∧∃a,v=some a∧FrzO nm o a b)→∀j b,(Tr.put k v' t').get j=some b→j≠nm∧∃a,(Tr.put k v t).get j=some a∧FrzO nm o a b:=by
    intro v' hv j b e;rw[Tr.get] at e ⊢;cases c:Nat.beq j k with
    | true =>
      rw[c] at e;have:=Nat.eq_of_beq_eq_true c;subst this;exact hv b e
    | false=>rw[c] at e;exact h2 j b e
   cases hk:Nat.beq k nm with
   | true =>
     rw[hk] at h1;exact⟨_,h1,other none fun b e=>by cases e⟩
   | false =>
     rw[hk] at h1;have hne:k≠nm:=fun e=>by subst e;rw[Nat.beq_refl] at hk;cases hk
     simp only[cond_false] at h1;split at h1
     · rename_i sz es
       refine⟨_,yok h1,other _ fun b e=>?_⟩
       cases e;refine⟨hne,_,rfl,.inr ⟨sz,es,_,rfl,rfl,by simp,fun i f e=>?_⟩⟩
       rw[List.getElem?_map] at e;cases he:es[i]? with
       | none=>rw[he] at e;cases e
       | some r =>
         rw[he] at e;cases e;refine⟨r,rfl,by simp,fun j y e=>?_⟩
         rw[List.getElem?_map] at e;cases hr:r[j]? with
         | none=>rw[hr] at e;cases e
         | some x=>rw[hr] at e;cases e;exact⟨x,rfl,yjc nm o x⟩
     · exact⟨_,h1,other v fun b e=>⟨hne,b,e,.inl rfl⟩⟩
 | .node _ _ _,_,h=>h.elim
 | .fam _ _ _ _,_,h=>h.elim
def mapN (H:zah):zah→Option (Nat×AObj)
 | .put k _ t => match H.get k with
   | some (.mp es)=>some (k,.mp es)
   | _=>mapN H t
 | _=>none
theorem ygm {H:zah}:∀{t:zah} {k:Nat} {o:AObj},mapN H t=some (k,o)→H.get k=some o
 | .put j v t, k, o, h => by
   unfold mapN at h;split at h
   · rename_i es e;cases h;exact e
   · exact ygm h
 | .nil,_,_,h=>by cases h
 | .node _ _ _,_,_,h=>by cases h
 | .fam _ _ _ _,_,_,h=>by cases h
def zw8 (H:zah)(sl:Tr AV):List Nat→Option (Nat×AObj)
 | []=>none
 | t :: l => match Nat.beq t 999 with
   | true => match mapN H H with
     | some p=>some p
     | none=>zw8 H sl l
   | false => match (match sl.get t with
    | some (.slc k _ _ _)=>some k
    | some (.ptr k _ _)=>some k
    | _=>none) with
    | some k => match H.get k with
      | some (.arr sz es)=>some (k,.arr sz es)
      | _=>zw8 H sl l
    | none=>zw8 H sl l
theorem zo7 {H:zah}{sl:Tr AV}:∀{l:List Nat} {k:Nat} {o:AObj},zw8 H sl l=some (k,o)→H.get k=some o
 | [],_,_,h=>by cases h
 | t :: l, k, o, h => by
   unfold zw8 at h;split at h
   · split at h
     · rename_i p e;cases h;exact ygm e
     · exact zo7 h
   · split at h
     · split at h
       · rename_i e;cases h;exact e
       · exact zo7 h
     · exact zo7 h
def fzM (ts:List Nat)(K:Nat→St→Prop):Nat→Nat→St→Prop
 | 0,nx,S=>K nx S
 | d + 1, nx, ⟨sl, n, H, x⟩ => match zw8 H sl ts with
   | some (nm,o)=>fzS (fzV nm o) sl fun sl'=>fzH nm (fzV nm o) H fun H'=>fzM ts K d nx ⟨sl',n,H',x⟩
   | none=>K nx ⟨sl,n,H,x⟩
theorem yol {P:Program}{E:Env}{code:Code}{Q:AX→Nat→St→Prop}{ts:List Nat}{K:Nat→St→Prop}(hK:∀nx S,K nx S→DW P E false nx code Q S):∀(d nx:Nat) (S:St),fzM ts K d nx S→DW P E false nx code Q S
 | 0,nx,S,h=>hK nx S h
 | d + 1, nx, ⟨sl, n, H, x⟩, h => by
   unfold fzM at h;split at h
   · rename_i nm o ho
     obtain⟨sl',h1,h2⟩:=yoj h;obtain⟨H',h3,h4⟩:=yom h1;refine DW.wk ?_ (yol hK d nx _ h3);exact WkM.freeze (S:=(⟨sl,n,H,x⟩:St).at_ nx) (S':=(⟨sl',n,H',x⟩:St).at_ nx) nm o (zo7 ho) rfl rfl (fun t y e=>by obtain⟨z,e1,rfl⟩:=h2 t y e;exact⟨z,e1,yjc nm o z⟩) (fun k b e=>h4 k b e)
   · exact hK nx _ h
structure EvS where
 C:yc9
 P:FuncId→List AV→(AE→Prop)→Prop
section
variable (P:Program) (E:Env) (Kn:Nat→Option (List AV→Option AV)) (cg:Nat) (Fr:Nat→Bool) (Fz:Nat→Nat→List Nat) (Pu:Nat→Bool)
def ygn:Code→Nat
 | .seq a _=>ygn a
 | .region id _ _=>id
 | _=>0
def elp (fz:Nat→List Nat)(C:yc9)(V:yfs):Nat→yk2
 | 0=>fun _ _ _ _=>False
 | d + 1 => fun body K nx S => match fz (ygn body) with
   | []=>rnd (ew E C V (elp fz C V d) body) K 5000 nx S
   | ts=>rnd (fun K'=>fzM ts (ew E C V (elp fz C V d) body K') 20) K 5000 nx S
def evV (e:EvS):yfs:=fun nm f args H R=>match f with
 | .fn (.func g) first cap => match first ++ args ++ cap with
   | all => match mapO (snap .nil 20) all with
     | some a => cond (Fr g)
       (e.C g a .nil 0 fun ae H' _=>match ae with
         | .ret (.slc K0 0 n sz) => match H'.get K0 with
           | some (.arr sz' es)=>cond (Nat.beq sz sz' && ((es.all fun e=>e.all zgv) && Nat.ble (nm+2) 16777216)) (R (.slc nm 0 n sz) [(nm,some (.arr sz es))] []) False
           | _=>False
         | _=>False)
       (e.P g a fun ae=>match ae with
         | .ret v=>R v [] []
         | .pan _=>False)
     | none => match mapO (snap H 20) all with
       | some a => e.P g a fun ae => match ae with
         | .ret v=>cond v.flat (R v [] (all.flatMap (sids H 20))) False
         | .pan _=>False
       | none=>False
 | _=>False
def evB (e:EvS)(f:FuncId)(args:List AV)(H:zah)(nx:Nat)(K:Func→AX→Nat→St→Prop):Prop:=
 match P.funcs[f]? with
 | some fn => match fn.body with
   | some code=>cond (Nat.ble args.length fn.ntmps && Nat.blt fn.ntmps 1000000) (fL AV.f1 args fun args'=>yam args' 0 .nil fun sl=>fN fn.ntmps fun n=>ew E e.C (evV Fr e) (elp E (Fz f) e.C (evV Fr e) 8) code (K fn) nx ⟨sl,n,H,0⟩) False
   | none=>False
 | none=>False
def zxj (e:EvS)(g:FuncId)(args:List AV)(Q:AE→Prop):Prop:=
 match Kn g with
 | some T => match T args with
   | some v=>v.f3 fun v=>Q (.ret v)
   | none=>False
 | none => match args with
   | [.fn (.func g') [] cap] => cond (Nat.beq g cg) (e.P g' cap fun ae => match ae with
     | .ret (.tup [])=>Q (.ret (.int .i64 0))
     | _=>False) False
   | _=>False
def isK (g:FuncId):Bool:=match Kn g with
 | some _=>true
 | none=>Nat.beq g cg
def evP (e:EvS)(g:FuncId)(args:List AV)(Q:AE→Prop):Prop:=
 cond (isK Kn cg g) (zxj Kn cg e g args Q) (evB P E Fr Fz e g args .nil 0 fun fn ax _ S=>ret3 E fn Q ax S)
def kfz (e:EvS)(g:FuncId)(nx:Nat)(R:AE→zah→Nat→Prop):Nat→List AV→zah→Prop
 | 0,_,_=>False
 | d + 1, args, H => match mapO (snap .nil 20) args with
   | some a=>zxj Kn cg e g a fun ae=>R ae H nx
   | none => match args.flatMap (sids H 20) with
     | []=>False
     | nm :: _ => match H.get nm with
       | some o=>kfz e g nx R d (args.map (fzV nm o)) (.put nm none H)
       | none=>False
def evC (e:EvS):yc9:=fun g args H nx R=>
 cond (isK Kn cg g) (match mapO (snap .nil 20) args with
  | some a=>zxj Kn cg e g a fun ae=>R ae H nx
  | none => match mapO (snap H 20) args with
    | some a=>zxj Kn cg e g a fun ae=>cond ae.flat (R ae H nx) (kfz Kn cg e g nx R 10 args H)
    | none => False) (match Pu g with
  | true => match mapO (snap .nil 20) args with
    | some a=>e.P g a fun ae=>R ae H nx
    | none=>evB P E Fr Fz e g args H nx fun fn=>zs1 E fn R
  | false=>evB P E Fr Fz e g args H nx fun fn=>zs1 E fn R)
def ev:Nat→EvS
 | 0=>⟨fun _ _ _ _ _=>False,fun _ _ _=>False⟩
 | n+1=>⟨evC P E Kn cg Fr Fz Pu (ev n),evP P E Kn cg Fr Fz (ev n)⟩
end
section
variable {P:Program} {E:Env} {Kn:Nat→Option (List AV→Option AV)} {cg:Nat} {Fr:Nat→Bool} {Fz:Nat→Nat→List Nat} {Pu:Nat→Bool}
structure EvS.OK (P:Program)(E:Env)(e:EvS):Prop where
 C:∀g args H nx R,e.C g args H nx R→DC P E g args H nx R
 P:∀g args Q,e.P g args Q→DP P E g args Q
theorem ynf {B:(AX→Nat→St→Prop)→Nat→St→Prop}{body:Code}(hB:∀K nx S,B K nx S→DW P E false nx body K S){K:AX→Nat→St→Prop}{n nx:Nat}{S:St}(h:rnd B K n nx S):DW P E false nx (.loop body) K S:=by
 have key:∀(n nx:Nat) (S:St),rnd B K n nx S→∃ax nx' S',SWr P E false body (Ex1 ax nx' S') n (S.at_ nx)∧K ax nx' S':=by
  intro n
  induction n with
  | zero=>intro nx S h;exact h.elim
  | succ n ih =>
    intro nx S h;obtain⟨ax,nx',S',h1,h2⟩:=hB _ _ _ h;cases ax with
    | normal =>
      obtain⟨ax2,nx2,S2,g1,g2⟩:=ih nx' S' h2;exact⟨ax2,nx2,S2,h1.mono fun e s he=>by obtain⟨rfl,rfl⟩:=he;exact g1,g2⟩
    | exit i=>exact⟨_,nx',S',h1.mono fun e s he=>by obtain⟨rfl,rfl⟩:=he;exact⟨rfl,rfl⟩,h2⟩
    | goto i=>exact⟨_,nx',S',h1.mono fun e s he=>by obtain⟨rfl,rfl⟩:=he;exact⟨rfl,rfl⟩,h2⟩
    | ret=>exact⟨_,nx',S',h1.mono fun e s he=>by obtain⟨rfl,rfl⟩:=he;exact⟨rfl,rfl⟩,h2⟩
    | pan v=>exact⟨_,nx',S',h1.mono fun e s he=>by obtain⟨rfl,rfl⟩:=he;exact⟨rfl,rfl⟩,h2⟩
 obtain⟨ax,nx',S',h1,h2⟩:=key n nx S h;exact⟨ax,nx',S',zsj n h1,h2⟩
theorem yop {e:EvS}(he:e.OK P E){nm:Nat}{f:AV}{args:List AV}{H:zah}{R:AV→List (Nat×Option AObj)→List Nat→Prop}(h:evV Fr e nm f args H R):DV P E nm f args H R:=by
 unfold evV at h;split at h
 · rename_i g first cap
   dsimp only at h;split at h
   · rename_i a ha
     cases hf:Fr g with
     | true =>
       rw[hf] at h;simp only[cond_true] at h;obtain⟨ae,H',nx',h1,h2⟩:=he.C _ _ _ _ _ h;split at h2
       · rename_i K0 n sz
         split at h2
         · rename_i sz' es hg
           cases hc:(Nat.beq sz sz' && ((es.all fun e=>e.all zgv) && Nat.ble (nm+2) 16777216)) with
           | false=>rw[hc] at h2;exact h2.elim
           | true =>
             rw[hc] at h2;simp only[Bool.and_eq_true] at hc;have hsz:=Nat.eq_of_beq_eq_true hc.1;subst hsz;exact zkh (K0:=K0) (es:=es) ha ⟨_,_,_,h1,rfl,hg⟩ hc.2.1 hc.2.2 h2
         · exact h2.elim
       · exact h2.elim
     | false =>
       rw[hf] at h;refine zar ha (he.P _ _ _ h) fun ae hae=>?_
       cases ae with
       | ret v=>exact⟨v,rfl,hae⟩
       | pan v=>exact hae.elim
   · rename_i hn
     split at h
     · rename_i a ha
       refine DV.flat ha (he.P _ _ _ h) fun ae hae=>?_
       cases ae with
       | ret v =>
         dsimp only at hae;cases hv:v.flat with
         | false=>rw[hv] at hae;exact hae.elim
         | true=>rw[hv] at hae;exact⟨v,rfl,hv,hae⟩
       | pan v=>exact hae.elim
     · exact h.elim
 · exact h.elim
theorem yot (hE:EnvOK P E)(hmix:P.follows .mixedOrders=true){e:EvS}(he:e.OK P E)(fz:Nat→List Nat):∀(d:Nat) (body:Code) (K:AX→Nat→St→Prop) (nx:Nat) (S:St),elp E fz e.C (evV Fr e) d body K nx S→DW P E false nx (.loop body) K S
 | 0,_,_,_,_,h=>h.elim
 | d + 1, body, K, nx, S, h => by
   have hb:∀K nx S,ew E e.C (evV Fr e) (elp E fz e.C (evV Fr e) d) body K nx S→DW P E false nx body K S:=fun K nx S hb=>ew_s hE hmix he.C (fun _ _ _ _ _ h=>yop he h) (yot hE hmix he fz d) body hb
   simp only[elp] at h;split at h
   · exact ynf hb h
   · exact ynf (fun K nx S h=>yol (fun nx S h=>hb K nx S h) 20 nx S h) h
theorem yor (hE:EnvOK P E)(hmix:P.follows .mixedOrders=true){e:EvS}(he:e.OK P E){f:FuncId}{args:List AV}{H:zah}{nx:Nat}{K:Func→AX→Nat→St→Prop}(h:evB P E Fr Fz e f args H nx K) :
 ∃fn code,P.funcs[f]? = some fn∧fn.body=some code∧args.length<2 ^ 20∧DW P E false nx code (K fn) (St.init args fn.ntmps H 0):=by
 unfold evB at h;split at h
 · rename_i fn hf
   split at h
   · rename_i code hb
     cases hc:(Nat.ble args.length fn.ntmps && Nat.blt fn.ntmps 1000000) with
     | false=>rw[hc] at h;exact h.elim
     | true =>
       rw[hc] at h;simp only[cond_true] at h;simp only[Bool.and_eq_true] at hc;have h1:=Nat.le_of_ble_eq_true hc.1;have h2:fn.ntmps<1000000:=by have:=hc.2;simpa using this
       refine⟨fn,code,hf,hb,by omega,?_⟩
       rw[zs8 hc.1];exact ew_s hE hmix he.C (fun _ _ _ _ _ h=>yop he h) (yot hE hmix he (Fz f) 8) code (fN_s (k:=fun n=>ew E e.C (evV Fr e) (elp E (Fz f) e.C (evV Fr e) 8) code (K fn) nx ⟨zd8 args 0 .nil,n,H,0⟩) (zpf (fL_s (fun _ _ h=>AV.f1_s h) h)))
   · exact h.elim
 · exact h.elim
theorem zpe (hK:∀g T args v,Kn g=some T→T args=some v→DP P E g args (· = .ret v))(hcg:∀g cap,DP P E g cap (· = .ret (.tup []))→DP P E cg [.fn (.func g) [] cap] (· = .ret (.int .i64 0)))
 {e:EvS}(he:e.OK P E){g:FuncId}{args:List AV}{Q:AE→Prop}(h:zxj Kn cg e g args Q):DP P E g args Q:=by
 unfold zxj at h;split at h
 · rename_i T hT
   split at h
   · rename_i v hv
     exact(hK _ _ _ _ hT hv).mono fun ae hae=>by subst hae;exact AV.f3_s (k:=fun v=>Q (.ret v)) h
   · exact h.elim
 · split at h
   · rename_i g' cap
     cases hg:Nat.beq g cg with
     | false=>rw[hg] at h;exact h.elim
     | true =>
       rw[hg] at h;obtain rfl:=Nat.eq_of_beq_eq_true hg;obtain⟨ae,h1,h2⟩:=he.P _ _ _ h;split at h2
       · exact(hcg g' cap ⟨_,h1,rfl⟩).mono fun ae hae=>by subst hae;exact h2
       · exact h2.elim
   · exact h.elim
theorem ya2 {nm:Nat}{o:AObj}:∀{l:List AV},nrmL (FrzC nm o) l (l.map (fzV nm o))
 | []=>trivial
 | x::l=>⟨yjc nm o x,ya2 (l:=l)⟩
theorem yn9 (hK:∀g T args v,Kn g=some T→T args=some v→DP P E g args (· = .ret v))(hcg:∀g cap,DP P E g cap (· = .ret (.tup []))→DP P E cg [.fn (.func g) [] cap] (· = .ret (.int .i64 0)))
 {e:EvS}(he:e.OK P E){g:FuncId}{nx:Nat}{R:AE→zah→Nat→Prop}:∀(d:Nat) (args:List AV) (H:zah),kfz Kn cg e g nx R d args H→DC P E g args H nx R
 | 0,_,_,h=>h.elim
 | d + 1, args, H, h => by
   unfold kfz at h;split at h
   · rename_i a ha
     exact zaa ha (zpe hK hcg he h) fun ae hae=>hae
   · split at h
     · exact h.elim
     · split at h
       · rename_i o ho
         exact DC.frzG ho ya2 (yn9 hK hcg he d _ _ h)
       · exact h.elim
theorem ev_s (hE:EnvOK P E)(hmix:P.follows .mixedOrders=true)(hname:∀(g:Nat) (fn:Func),P.funcs[g]? = some fn→fn.name ≠ "runtime.NumGoroutine")
 (hK:∀g T args v,Kn g=some T→T args=some v→DP P E g args (· = .ret v))(hcg:∀g cap,DP P E g cap (· = .ret (.tup []))→DP P E cg [.fn (.func g) [] cap] (· = .ret (.int .i64 0))):∀n,(ev P E Kn cg Fr Fz Pu n).OK P E
 | 0=>⟨fun _ _ _ _ _ h=>h.elim,fun _ _ _ h=>h.elim⟩
 | n + 1 => by
   have ih:=ev_s hE hmix hname hK hcg n
   constructor
   · intro g args H nx R h
     change evC P E Kn cg Fr Fz Pu (ev P E Kn cg Fr Fz Pu n) g args H nx R at h
     unfold evC at h;cases hk:isK Kn cg g with
     | true =>
       rw[hk] at h;simp only[cond_true] at h;split at h
       · rename_i a ha
         exact zaa ha (zpe hK hcg ih h) fun ae hae=>hae
       · split at h
         · rename_i a ha
           obtain⟨ae,h1,h2⟩:=zpe hK hcg ih h;cases hf:ae.flat with
           | false=>rw[hf] at h2;exact yn9 hK hcg ih 10 _ _ h2
           | true=>rw[hf] at h2;exact DC.flat ha ⟨ae,h1,rfl⟩ fun ae' he=>by subst he;exact⟨hf,h2⟩
         · exact h.elim
     | false =>
       rw[hk] at h;simp only[cond_false] at h;have hB:evB P E Fr Fz (ev P E Kn cg Fr Fz Pu n) g args H nx (fun fn=>zs1 E fn R)→DC P E g args H nx R:=fun h=>by
        obtain⟨fn,code,h1,h2,h3,h4⟩:=yor hE hmix ih h;exact zwp hE h1 h2 (hname _ _ h1) h3 (h4.mono fun e _ s hh=>zze hh)
       split at h
       · split at h
         · rename_i a ha
           exact zaa ha (ih.P _ _ _ h) fun ae hae=>hae
         · exact hB h
       · exact hB h
   · intro g args Q h
     change evP P E Kn cg Fr Fz (ev P E Kn cg Fr Fz Pu n) g args Q at h
     unfold evP at h;cases hk:isK Kn cg g with
     | true=>rw[hk] at h;exact zpe hK hcg ih h
     | false =>
       rw[hk] at h;obtain⟨fn,code,h1,h2,h3,h4⟩:=yor hE hmix ih h;exact zwo hE h1 h2 (hname _ _ h1) h3 (h4.mono fun e _ s hh=>ygd hh)
end
end Go.Ago
end
