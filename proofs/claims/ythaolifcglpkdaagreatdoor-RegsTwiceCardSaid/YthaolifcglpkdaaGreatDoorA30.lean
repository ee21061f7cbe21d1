/-
  Part A30: lemmas, each with its own conditions.
-/
import Derived.Test.YthaolifcglpkdaaGreatDoorA19
set_option maxRecDepth 100000
set_option maxHeartbeats 0
set_option linter.all false
section
namespace Go.Ago
open List Nat
abbrev tB:=FuncId->List AV->ai->Nat->(AE->ai->Nat->Prop)->Prop
abbrev vx:=Nat->AV->List AV->ai->(AV->List (Nat×Option an)->List Nat->Prop)->Prop
abbrev zN:=Code->(AX->Nat->St->Prop)->Nat->St->Prop
section
variable (P:Program) (E:Env) (C:tB) (V:vx) (L:zN)
def A1 (nx:Nat)(f:AV)(args:List AV)(S:St)(e:Option Tmp)(c:Nat->St->Prop)(K:AX->Nat->St->Prop):Prop:=
 match f with
 | .fn (.func g) a h => fL AV.f1 (a ++ args ++ h) fun b => C g b S.heap nx fun k i d => match k with
   | .ret v=>match S with|⟨j,n,_,_⟩=>kg j n e v i (c d)
   | .aR v=>K (.aR v) d (S.put none .any i 0)
 | _=>False
def wI (nm nx:Nat)(o:Oper)(S:St)(a:Nat->St->Prop)(K:AX->Nat->St->Prop):Prop:=
 match S with
 | ⟨b, n, H, x⟩ => cond (cv ⟨b, n, H, x⟩ o.dst) (match o.op with
   | .call { callee := .value f,args,.. }=>A1 C nx (St.ev E ⟨b,n,H,x⟩ f) (args.toList.map (St.ev E ⟨b,n,H,x⟩)) ⟨b,n,H,x⟩ o.dst a K
   | e=>(cc E nm (St.ev E ⟨b,n,H,x⟩) e).h3 H (fun v g=>s9 H (fun h=>kg b n o.dst v h (a nx)) g) (fun v=>v.f1 fun d=>K (.aR d) nx ⟨b,n,H,x⟩)) False
def pW (ops:List Oper)(a:Nat)(K:AX->Nat->St->Prop):List Oper->Nat->Nat->St->Prop
 | [],_,d,S=>K .normal d S
 | o::b,i,d,S=>oz ops S o.guard (wI E C (a+i) d o S (pW ops a K b (i+1)) K)
  (match S with|⟨e,n,H,x⟩=>cond (cv ⟨e,n,H,x⟩ o.dst) (kg e n o.dst (.ao []) H (pW ops a K b (i+1) d)) False)
def A_ (nm:Nat)(o:Oper)(S:St)(a:AV->List (Nat×Option an)->List Nat->Prop):Prop:=
 match S with
 | ⟨c, n, H, x⟩ => cond (cv ⟨c, n, H, x⟩ o.dst) (match o.op with
   | .call { callee := .value f,args,.. }=>(St.ev E ⟨c,n,H,x⟩ f).f1 fun j=>fL AV.f1 (args.toList.map (St.ev E ⟨c,n,H,x⟩)) fun b=>V nm j b H fun v d g=>v.uj false fun e=>a e d g
   | i=>(cc E nm (St.ev E ⟨c,n,H,x⟩) i).cI H (fun v d l=>v.uj false fun e=>a e d l) []) False
def eD (ops:List Oper)(c:Nat)(a:List Nat)(K:St->Prop):List Oper->Nat->St->List (Nat×List Nat×List Nat)->List (Nat×List Nat×List Nat)->Prop
 | [],_,S,_,_=>K S
 | o::d,i,S,e,b=>oz ops S o.guard
  (A_ E V (c + i) o S fun v g f => cond (gK a i f g e b) (lq S o.dst v g fun h=>match g with
    | []=>eD ops c a K d (i+1) h ((i,f,[])::e) b
    | g=>eD ops c a K d (i+1) h ((i,f,g.map (·.1))::e) ((i,f,g.map (·.1))::b)) False)
  (cond (cv S o.dst) (lq S o.dst (.ao []) [] fun h=>eD ops c a K d (i+1) h ((i,[],[])::e) b) False)
def ew:Code->(AX->Nat->St->Prop)->Nat->St->Prop
 | .skip,K,c,S=>K .normal c S
 | .label _,K,c,S=>K .normal c S
 | .exit i,K,c,S=>K (.exit i) c S
 | .goto l,K,c,S=>K (.goto l) c S
 | .ret,K,c,S=>K .ret c S
 | .region _ f false,K,c,S=>fN (c+f.size) fun d=>pW E C f.toList c K f.toList 0 d S
 | .region _ f true,K,c,S=>cond (iV f.toList) (fN (c+f.size) fun d=>eD E V f.toList c (js f.toList []) (K .normal d) f.toList 0 S [] []) False
 | .seq a b,K,c,S=>ew a (fun e d h=>match e with | .normal=>ew b K d h|e=>K e d h) c S
 | .cond x t e, K, c, S => match S.ev E x with
   | .bool b=>cond b (ew t K c S) (ew e K c S)
   | _=>False
 | .block id g, K, c, S => ew g (fun e d h => match e with
   | .exit j=>cond (beq j id) (K .normal d h) (K (.exit j) d h)
   | e=>K e d h) c S
 | .loop g,K,c,S=>L g K c S
 | .scope k,K,c,S=>ew k (IJ K) c S
 | .rangeFunc ..,K,c,S=>False
 | .refuse _,K,c,S=>False
end
section
variable {P:Program} {E:Env} {C:tB} {V:vx} {L:zN}
theorem QP (i:∀g args H nx R,C g args H nx R->DC P E g args H nx R){nx:Nat}{f:AV}{args:List AV}{S:St}{b:Option Tmp}{a:Nat->St->Prop}{K:AX->Nat->St->Prop}(h:A1 C nx f args S b a K):pU P E nx f args S b a K:=by
 unfold A1 at h;split at h
 . refine (i _ _ _ _ _ (gj (fun _ _ h => AV.gi h) h)).mono fun e l j c => ?_
   cases e with
   | ret v=>exact oR c
   | aR v=>exact c
 grind
theorem Q7 (i:∀g args H nx R,C g args H nx R->DC P E g args H nx R){nm nx:Nat}{o:Oper}{S:St}{a:Nat->St->Prop}{K:AX->Nat->St->Prop}(h:wI E C nm nx o S a K):pV P E nm nx o S a K:=by
 obtain⟨l,n,H,x⟩:=S;simp only[wI] at h;cases c:cv ⟨l,n,H,x⟩ o.dst with
 | false=>grind
 | true =>
   rw[c] at h;refine⟨c,?_⟩;split at h
   . rename_i f args m b
     rw[b];exact QP i h
   . have j := Rd.qd h
     have p:=Rd.kc (fun e k=>oR (h0:=H) (x:=x) (vm k)) (fun v d=>AV.gi d) j
     grind
theorem ui (d:∀g args H nx R,C g args H nx R->DC P E g args H nx R){ops:List Oper}{b:Nat}{K:AX->Nat->St->Prop}:∀(a:List Oper) {i nx:Nat} {S:St},pW E C ops b K a i nx S->jt P E ops b K a i nx S
 | [],_,_,_,h=>h
 | o :: a, i, nx, S, h => by
   simp only[pW,oz] at h;simp only[jt,gate];have k:(match S with|⟨j,n,H,x⟩=>cond (cv ⟨j,n,H,x⟩ o.dst) (kg j n o.dst (.ao []) H (pW E C ops b K a (i+1) nx)) False)->(cv S o.dst=true∧jt P E ops b K a (i+1) nx (S.put o.dst (.ao []) S.heap 0)):=by
    intro h;obtain⟨j,n,H,x⟩:=S;dsimp only at h;cases l:cv ⟨j,n,H,x⟩ o.dst with
    | false=>grind
    | true=>rw[l] at h;exact⟨rfl,ui d a (oR h)⟩
   have s:wI E C (b+i) nx o S (pW E C ops b K a (i+1)) K->pV P E (b+i) nx o S (jt P E ops b K a (i+1)) K:=fun h=>by
    obtain⟨l,h⟩:=Q7 (P:=P) d h;refine⟨l,?_⟩;split at h
    . unfold pU at h ⊢
      split at h
      . refine DC.mono h fun m u p f => ?_
        cases m with
        | ret v=>exact ui d a f
        | aR v=>exact f
      . refine DY.mono h fun m u p f => ?_
        cases m with
        | ret v=>exact ui d a f
        | aR v=>exact f
      omega
    . exact Rd.kc (fun e t=>ui d a t) (fun _ h=>h) h
   grind
theorem wF (N:∀nm f args H R,V nm f args H R->DV P E nm f args H R){ops:List Oper}{q:Nat}{c:List Nat}{K:St->Prop}{n:Nat}:∀(g:List Oper) {i:Nat} {S:St} {acc r:List (Nat×List Nat×List Nat)},(∀p∈acc,p.2.2≠[]->p∈r)->
 eD E V ops q c K g i S acc r->∃S',K S'∧fR P E ops q c (fun s=>s=S'.at_ n) g i (S.at_ n) acc
 | [],i,S,acc,r,_,h=>⟨S,h,rfl⟩
 | o :: g, i, S, acc, r, Y, h => by
   have Q : (A_ E V (q + i) o S fun v t k => cond (gK c i k t acc r) (lq S o.dst v t fun S'=>match t with
    | []=>eD E V ops q c K g (i+1) S' ((i,k,[])::acc) r
    | t=>eD E V ops q c K g (i+1) S' ((i,k,t.map (·.1))::acc) ((i,k,t.map (·.1))::r)) False)->
    ∃S',K S'∧mY P E (q+i) o (S.at_ n) fun d=>jF c i d acc=true∧fR P E ops q c (fun s=>s=S'.at_ n) g (i+1) ((S.at_ n).app o d) ((i,d.rds,d.keys)::acc):=by
    intro h;have O : ∀ v t k, (cond (gK c i k t acc r) (lq S o.dst v t fun S'=>match t with
     | []=>eD E V ops q c K g (i+1) S' ((i,k,[])::acc) r
     | t=>eD E V ops q c K g (i+1) S' ((i,k,t.map (·.1))::acc) ((i,k,t.map (·.1))::r)) False)->
     ∃S',K S'∧jF c i ⟨v,t,k⟩ acc=true∧fR P E ops q c (fun s=>s=S'.at_ n) g (i+1) ((S.at_ n).app o ⟨v,t,k⟩) ((i,k,t.map (·.1))::acc):=by
     intro v t k h;cases U:gK c i k t acc r with
     | false=>grind
     | true =>
       rw[U] at h;simp only[cond_true] at h;obtain⟨S1,B,J⟩:=vK (n:=n) (rds:=k) h;rw[J];cases t with
       | nil =>
         dsimp only at B;obtain ⟨S', u, w⟩ := wF N g (fun p Q M=>by
          grind) B
         exact⟨S',u,wm Y v U,w⟩
       | cons a t =>
         dsimp only at B;obtain ⟨S', u, w⟩ := wF N g (fun p Q M=>by
          grind) B
         exact⟨S',u,wm Y v U,w⟩
    obtain⟨W,m,H,x⟩:=S;simp only[A_] at h;cases F:cv ⟨W,m,H,x⟩ o.dst with
    | false=>grind
    | true =>
      rw[F] at h;simp only[cond_true] at h;unfold mY;split at h
      . rename_i f args ts A
        have h:=gj (fun _ _ h=>AV.gi h) (AV.gi h)
        rcases N _ _ _ _ _ h with⟨v,k,z,h⟩|⟨v,t,z,h⟩|⟨v,k,t,z,h⟩
        . obtain ⟨S', u, w, G⟩ := O v [] k (AV.ot h)
          refine⟨S',u,F,?_⟩;rw[A];exact .inl ⟨v,k,z,w,G⟩
        . obtain ⟨S', u, w, G⟩ := O v t [] (AV.ot h)
          refine⟨S',u,F,?_⟩;rw[A];exact .inr (.inl ⟨v,t,z,w,G⟩)
        . obtain ⟨S', u, w, G⟩ := O v t k (AV.ot h)
          refine⟨S',u,F,?_⟩;rw[A];exact .inr (.inr ⟨v,k,t,z,w,G⟩)
      . rename_i A
        obtain⟨e,l,B,J⟩:=Rd.qg (Rd.oA h);obtain⟨S',u,w,G⟩:=O e.val e.up l (AV.ot B);refine⟨S',u,F,?_⟩;have:=Rd.oB (K':=fun y l=>jF c i ⟨y.val,y.up,l⟩ acc=true∧fR P E ops q c (fun s=>s=S'.at_ n) g (i+1) (((⟨W,m,H,x⟩:St).at_ n).app o ⟨y.val,y.up,l⟩) ((i,l,y.up.map (·.1))::acc)) (fun e' l' he=>by grind) J
        split
        . grind
        . exact this
   have hq:cond (cv S o.dst) (lq S o.dst (.ao []) [] fun S'=>eD E V ops q c K g (i+1) S' ((i,[],[])::acc) r) False->
    ∃S',K S'∧cv S o.dst=true∧fR P E ops q c (fun s=>s=S'.at_ n) g (i+1) ((S.at_ n).app o ⟨.ao [],[],[]⟩) ((i,[],[])::acc):=by
    intro h;cases F:cv S o.dst with
    | false=>grind
    | true =>
      rw[F] at h;simp only[cond_true] at h;obtain⟨S1,B,J⟩:=vK (n:=n) (rds:=[]) h;rw[J];obtain ⟨S', u, w⟩ := wF N g (fun p Q M=>by
       grind) B
      exact⟨S',u,rfl,w⟩
   have T:∀j b,gO ops (S.at_ n) j b=gO ops S j b:=fun _ _=>rfl
   have I:cv (S.at_ n) o.dst=cv S o.dst:=rfl;simp only[eD,oz] at h;simp only[fR,gate,T,I]
   grind
theorem oq (F:bW P E)(q:P.follows .mixedOrders=true)(O:∀g args H nx R,C g args H nx R->DC P E g args H nx R)(T:∀nm f args H R,V nm f args H R->DV P E nm f args H R)(N:∀z K nx S,L z K nx S->DW P E false nx (.loop z) K S) :
 ∀(code:Code) {K:AX->Nat->St->Prop} {nx:Nat} {S:St},ew E C V L code K nx S->DW P E false nx code K S
 | .skip,K,nx,S,h=>DW.kP F (code := .skip) h
 | .label l,K,nx,S,h=>DW.kP F (code := .label l) h
 | .exit i,K,nx,S,h=>DW.kP F (code := .exit i) h
 | .goto l,K,nx,S,h=>DW.kP F (code := .goto l) h
 | .ret,K,nx,S,h=>DW.kP F (code := .ret) h
 | .region id o false,K,nx,S,h=>DW.kP F (code := .region id o false) (ui O o.toList (rO h))
 | .region _ o true, K, nx, S, h => by
   simp only[ew] at h;cases hd:iV o.toList with
   | false=>grind
   | true =>
     rw[hd] at h
     replace h:eD E V o.toList nx (js o.toList []) (K .normal (nx+o.size)) o.toList 0 S [] []:=rO (k:=fun d=>eD E V o.toList nx (js o.toList []) (K .normal d) o.toList 0 S [] []) h
     obtain⟨A,D,u⟩:=wF T (n:=nx+o.size) o.toList (fun p hp=>by cases hp) h
     obtain⟨G,J⟩:=F5 hd;exact⟨.normal,nx+o.size,A,SW.draw F q G J (tY (fun s J=>⟨rfl,J⟩) o.toList u),D⟩
 | .seq x y, K, nx, S, h => by
   obtain⟨I,d,A,D,u⟩:=oq F q O T N x h;cases I with
   | normal =>
     obtain⟨ax2,nx2,S2,Z,Y⟩:=oq F q O T N y u;refine⟨ax2,nx2,S2,SW.seq (D.mono fun e s G=>?_),Y⟩
     grind
   | exit i=>exact⟨_,d,A,SW.seq (D.mono fun e s G=>by grind),u⟩
   | goto i=>exact⟨_,d,A,SW.seq (D.mono fun e s G=>by grind),u⟩
   | ret=>exact⟨_,d,A,SW.seq (D.mono fun e s G=>by grind),u⟩
   | aR v=>exact⟨_,d,A,SW.seq (D.mono fun e s G=>by grind),u⟩
 | .cond x t e, K, nx, S, h => by
   simp only[ew] at h;cases hx:S.ev E x<;>rw[hx] at h<;>first|exact h.elim|skip
   rename_i b;cases b with
   | true =>
     obtain⟨I,d,A,Z,Y⟩:=oq F q O T N t h;refine⟨I,d,A,fun r Q m hm c a w J=>?_,Y⟩
     have U:=J.ev x;rw[show(S.at_ nx).ev E x = .bool true from hx] at U
     generalize hv:a.eval x=v at U
     cases U;exact wpIn_cond hv (Z r Q m hm c a w J)
   | false =>
     obtain⟨I,d,A,Z,Y⟩:=oq F q O T N e h;refine⟨I,d,A,fun r Q m hm c a w J=>?_,Y⟩
     have U:=J.ev x;rw[show(S.at_ nx).ev E x = .bool false from hx] at U
     generalize hv:a.eval x=v at U
     cases U;exact wpIn_cond hv (Z r Q m hm c a w J)
 | .block id z, K, nx, S, h => by
   obtain⟨I,d,A,D,u⟩:=oq F q O T N z h;cases I with
   | exit j =>
     by_cases hj:j=id
     . subst hj
       dsimp only at u;rw[show beq j j=true by simp] at u
       exact⟨.normal,d,A,SW.block (D.mono fun e s G=>by grind),u⟩
     . dsimp only at u
       rw[show beq j id=false by
        cases e:beq j id with
        | false=>rfl
        | true=>simp_all] at u
       exact⟨_,d,A,SW.block (D.mono fun e s G=>by grind),u⟩
   | normal=>exact⟨_,d,A,SW.block (D.mono fun e s G=>by grind),u⟩
   | goto i=>exact⟨_,d,A,SW.block (D.mono fun e s G=>by grind),u⟩
   | ret=>exact⟨_,d,A,SW.block (D.mono fun e s G=>by grind),u⟩
   | aR v=>exact⟨_,d,A,SW.block (D.mono fun e s G=>by grind),u⟩
 | .loop z,K,nx,S,h=>N z K nx S h
 | .scope code, K, nx, S, h => by
   obtain⟨I,d,A,D,u⟩:=oq F q O T N code h;refine⟨I,d,A,SW.scope (D.mono fun a s hh=>?_),?_⟩
   . obtain ⟨rfl, rfl⟩ := hh
     cases a<;>first|exact u.elim|exact⟨rfl,rfl⟩
   . cases I<;>first|exact u.elim|exact u
 | .rangeFunc ..,K,nx,S,h=>h.elim
 | .refuse _,K,nx,S,h=>h.elim
end
end Go.Ago
end
section
namespace Go.Ago
open List Nat
variable {P:Program} {E:Env} {rr:Bool}
theorem SW.wkM {code:Code}{Q:AX->St->Prop}{S S':St}(g:S.next≤S'.next)(f:dt P E S.next S S')(h:SW P E rr code Q S'):SW P E rr code Q S:=by
 intro r j m l c a w o;obtain⟨F,p,q,s,t,u⟩:=f c a w o;have v:=(ek.refl m c a w _).jg ⟨fun k I=>p k aa,q,rfl,rfl,rfl,Nat.le_refl _,fun _ _ _=>rfl,fun b d=>(s b d).imp id .inl,fun b d => .inl (t b d)⟩ rfl
 refine wpIn_mono (h r j m (Nat.le_trans l g) _ a w u) ?_
 rintro e G H ⟨y,z,A,x,C,B,D,i⟩
 exact⟨y,z,A,v.trans x,Nat.le_trans g C,B,D,i⟩
theorem DW.wk {code:Code}{K:AX->Nat->St->Prop}{nx:Nat}{S S':St}(b:dt P E nx (S.at_ nx) (S'.at_ nx))(h:DW P E rr nx code K S'):DW P E rr nx code K S:=by
 obtain⟨d,a,f,g,e⟩:=h;exact⟨d,a,f,SW.wkM (S':=S'.at_ _) (Nat.le_refl _) b g,e⟩
def uu (nm:Nat)(o:an)(S:St):List (Nat×AV)->Prop
 | []=>True
 | (t,y)::l=>(∃x,S.bo.get t=some x∧gJ nm o x y)∧uu nm o S l
def ur (nm:Nat)(o:an)(S:St):List (Nat×an)->Prop
 | []=>True
 | (k,b)::l=>(k≠nm∧∃a,S.heap.get k=some a∧j3 nm o a b)∧ur nm o S l
theorem Bz {nm:Nat}{o:an}{S:St}:∀{l:List (Nat×AV)},uu nm o S l->∀t y,(t,y)∈l->∃x,S.bo.get t=some x∧gJ nm o x y
 | [],_,_,_,h=>by cases h
 | (c, d) :: l, b, t, y, h => by
   rcases mem_cons.1 h with h|h
   . cases h;exact b.1
   exact Bz b.2 t y h
theorem Bw {nm:Nat}{o:an}{S:St}:∀{l:List (Nat×an)},ur nm o S l->∀k b,(k,b)∈l->k≠nm∧∃a,S.heap.get k=some a∧j3 nm o a b
 | [],_,_,_,h=>by cases h
 | (e, f) :: l, d, t, y, h => by
   rcases mem_cons.1 h with h|h
   . cases h;exact d.1
   exact Bw d.2 t y h
theorem DW.ov (nm:Nat)(o:an)(c:List (Nat×AV))(a:List (Nat×an)){code:Code}{K:AX->Nat->St->Prop}{nx:Nat}{S:St}(f:S.heap.get nm=some o)(g:uu nm o S c)(i:ur nm o S a)
 (h:DW P E rr nx code K ⟨gF c,S.bF,gS a,0⟩):DW P E rr nx code K S:=
 DW.wk (S':=⟨gF _,S.bF,gS _,0⟩) (dt.freeze _ o f rfl rfl (fun t y e=>Bz g t y (oK e)) (fun k b e=>Bw i k b (nB e))) h
end Go.Ago
end
section
namespace Go.Ago
open List Nat
def u3 (B:(AX->Nat->St->Prop)->Nat->St->Prop)(K:AX->Nat->St->Prop):Nat->Nat->St->Prop
 | 0,_,_=>False
 | n + 1, d, S => B (fun e a b => match e with
   | .normal=>u3 B K n a b
   | e=>K e a b) d S
def qb (nm:Nat)(o:an)(x:AV):AV:=match snap (.put nm (some o) .nil) 20 x with
 | some y=>y
 | none=>x
theorem BD (nm:Nat)(o:an)(x:AV):gJ nm o x (qb nm o x):=by
 unfold qb;split
 . rename_i y h;exact .inr h
 exact .inl rfl
def BC (f:AV->AV):Tr AV->(Tr AV->Prop)->Prop
 | .nil,K=>K .nil
 | .put k v t, K => BC f t fun a => match v with
   | some x=>(f x).f3 fun y=>K (.put k (some y) a)
   | none=>K (.put k none a)
 | _,_=>False
theorem G6 {f:AV->AV}:∀{t:Tr AV} {K:Tr AV->Prop},BC f t K->∃b,K b∧∀j y,b.get j=some y->∃x,t.get j=some x∧y=f x
 | .nil,K,h=>⟨.nil,h,fun j y e=>by cases e⟩
 | .put k v t, K, h => by
   obtain⟨b,c,d⟩:=G6 (t:=t) h;cases v with
   | some x =>
     refine⟨_,AV.kG c,fun j y e=>?_⟩
     rw[Tr.get] at *
     grind
   | none =>
     refine⟨_,c,fun j y e=>?_⟩
     rw[Tr.get] at *
     grind
 | .node _ _ _,_,h=>h.elim
 | .fq _ _ _ _,_,h=>h.elim
def BB (f:AV->AV):List (List AV)->(List (List AV)->Prop)->Prop
 | [],K=>K []
 | r::l,K=>fL AV.f3 (r.map f) fun b=>BB f l fun a=>K (b::a)
theorem G5 {f:AV->AV}:∀{l:List (List AV)} {K:List (List AV)->Prop},BB f l K->K (l.map (List.map f))
 | [],_,h=>h
 | _::l,_,h=>G5 (l:=l) (gj (fun _ _ h=>AV.kG h) h)
def BA (nm:Nat)(f:AV->AV):ai->(ai->Prop)->Prop
 | .nil,K=>K .nil
 | .put k v t, K => BA nm f t fun a => cond (beq k nm) (K (.put k none a)) (match v with
   | some (.arr d e)=>BB f e fun b=>K (.put k (some (.arr d b)) a)
   | v=>K (.put k v a))
 | _,_=>False
theorem G3 {nm:Nat}{o:an}:∀{t:ai} {K:ai->Prop},BA nm (qb nm o) t K->∃m,K m∧∀j b,m.get j=some b->j≠nm∧∃a,t.get j=some a∧j3 nm o a b
 | .nil,K,h=>⟨.nil,h,fun j y e=>by cases e⟩
 | .put k v t, K, h => by
   obtain⟨m,g,A⟩:=G3 (t:=t) h;have d:∀p,(∀b,p=some b->k≠nm∧∃a,v=some a∧j3 nm o a b)->∀j b,(Tr.put k p m).get j=some b->j≠nm∧∃a,(Tr.put k v t).get j=some a∧j3 nm o a b:=by
    intro p B j b e;rw[Tr.get] at e ⊢;cases c:beq j k with
    | true =>
      rw[c] at e;have:=eq_of_beq_eq_true c;subst this;exact B b e
    | false=>rw[c] at e;exact A j b e
   cases n:beq k nm with
   | true =>
     rw[n] at g;exact⟨_,g,d none fun b e=>by cases e⟩
   | false =>
     rw[n] at g;have l:k≠nm:=fun e=>by subst e;rw[beq_refl] at n;cases n
     simp only[cond_false] at g;split at g
     . rename_i C u
       refine⟨_,G5 g,d _ fun b e=>?_⟩
       cases e;refine⟨l,_,rfl,.inr ⟨C,u,_,rfl,rfl,ag,fun i f e=>?_⟩⟩
       rw[getElem?_map] at e;cases z:u[i]? with
       | none=>rw[z] at e;cases e
       | some r =>
         rw[z] at e;cases e;refine⟨r,rfl,ag,fun j y e=>?_⟩
         rw[getElem?_map] at e;cases s:r[j]? with
         | none=>rw[s] at e;cases e
         | some x=>rw[s] at e;cases e;exact⟨x,rfl,BD nm o x⟩
     . exact⟨_,g,d v fun b e=>⟨l,b,e,.inl rfl⟩⟩
 | .node _ _ _,_,h=>h.elim
 | .fq _ _ _ _,_,h=>h.elim
def xw (H:ai):ai->Option (Nat×an)
 | .put k _ t => match H.get k with
   | some (.mp b)=>some (k,.mp b)
   | _=>xw H t
 | _=>none
theorem Ik {H:ai}:∀{t:ai} {k:Nat} {o:an},xw H t=some (k,o)->H.get k=some o
 | .put j v t, k, o, h => by
   unfold xw at h;split at h
   . grind
   exact Ik h
 | .nil,_,_,h=>by cases h
 | .node _ _ _,_,_,h=>by cases h
 | .fq _ _ _ _,_,_,h=>by cases h
def sD (H:ai)(b:Tr AV):List Nat->Option (Nat×an)
 | []=>none
 | t :: l => match beq t 999 with
   | true => match xw H H with
     | some p=>some p
     | none=>sD H b l
   | false => match (match b.get t with
    | some (.az k _ _ _)=>some k
    | some (.ptr k _ _)=>some k
    | _=>none) with
    | some k => match H.get k with
      | some (.arr d c)=>some (k,.arr d c)
      | _=>sD H b l
    | none=>sD H b l
theorem xU {H:ai}{b:Tr AV}:∀{l:List Nat} {k:Nat} {o:an},sD H b l=some (k,o)->H.get k=some o
 | [],_,_,h=>by cases h
 | t :: l, k, o, h => by
   unfold sD at h;split at h
   . split at h
     . rename_i p e;cases h;exact Ik e
     . exact xU h
   . split at h
     . split at h
       . rename_i e;cases h;exact e
       . exact xU h
     . exact xU h
def w7 (ts:List Nat)(K:Nat->St->Prop):Nat->Nat->St->Prop
 | 0,a,S=>K a S
 | d + 1, a, ⟨c, n, H, x⟩ => match sD H c ts with
   | some (b,o)=>BC (qb b o) c fun e=>BA b (qb b o) H fun g=>w7 ts K d a ⟨e,n,g,x⟩
   | none=>K a ⟨c,n,H,x⟩
theorem G4 {P:Program}{E:Env}{code:Code}{Q:AX->Nat->St->Prop}{ts:List Nat}{K:Nat->St->Prop}(c:∀nx S,K nx S->DW P E false nx code Q S):∀(d nx:Nat) (S:St),w7 ts K d nx S->DW P E false nx code Q S
 | 0,nx,S,h=>c _ S h
 | d + 1, nx, ⟨s, n, H, x⟩, h => by
   unfold w7 at h;split at h
   . rename_i q o i
     obtain⟨j,l,g⟩:=G6 h;obtain⟨r,m,p⟩:=G3 l;refine DW.wk ?_ (G4 c d _ _ m);exact dt.freeze _ o (xU i) rfl rfl (fun t y e=>by obtain⟨z,f,rfl⟩:=g t y e;exact⟨z,f,BD _ o z⟩) (fun k b e=>p k b e)
   grind
structure jn where
 C:tB
 P:FuncId->List AV->(AE->Prop)->Prop
section
variable (P:Program) (E:Env) (Kn:Nat->Option (List AV->Option AV)) (cg:Nat) (Fr:Nat->Bool) (Fz:Nat->Nat->List Nat) (Pu:Nat->Bool)
def Ii:Code->Nat
 | .seq a _=>Ii a
 | .region id _ _=>id
 | _=>0
def uh (b:Nat->List Nat)(C:tB)(V:vx):Nat->zN
 | 0=>fun _ _ _ _=>False
 | d + 1 => fun a K e S => match b (Ii a) with
   | []=>u3 (ew E C V (uh b C V d) a) K 5000 e S
   | g=>u3 (fun f=>w7 g (ew E C V (uh b C V d) a f) 20) K 5000 e S
def rN (e:jn):vx:=fun i f d H R=>match f with
 | .fn (.func g) b k => match b ++ d ++ k with
   | c => match aM (snap .nil 20) c with
     | some a => cond (Fr g)
       (e.C g a .nil 0 fun h p _=>match h with
         | .ret (.az o 0 n j) => match p.get o with
           | some (.arr l m)=>cond (beq j l && ((m.all fun e=>e.all hY) && ble (i+2) 16777216)) (R (.az i 0 n j) [(i,some (.arr j m))] []) False
           | _=>False
         | _=>False)
       (e.P g a fun h=>match h with
         | .ret v=>R v [] []
         | .aR _=>False)
     | none => match aM (snap H 20) c with
       | some a => e.P g a fun h => match h with
         | .ret v=>cond v.flat (R v [] (c.flatMap (cC H 20))) False
         | .aR _=>False
       | none=>False
 | _=>False
def rM (e:jn)(f:FuncId)(args:List AV)(H:ai)(nx:Nat)(K:Func->AX->Nat->St->Prop):Prop:=
 match P.funcs[f]? with
 | some b => match b.body with
   | some c=>cond (ble args.length b.ntmps && blt b.ntmps 1000000) (fL AV.f1 args fun a=>nk a 0 .nil fun d=>fN b.ntmps fun n=>ew E e.C (rN Fr e) (uh E (Fz f) e.C (rN Fr e) 8) c (K b) nx ⟨d,n,H,0⟩) False
   | none=>False
 | none=>False
def known (e:jn)(g:FuncId)(args:List AV)(Q:AE->Prop):Prop:=
 match Kn g with
 | some T => match T args with
   | some v=>v.f3 fun v=>Q (.ret v)
   | none=>False
 | none => match args with
   | [.fn (.func c) [] a] => cond (beq g cg) (e.P c a fun b => match b with
     | .ret (.ao [])=>Q (.ret (.int .i64 0))
     | _=>False) False
   | _=>False
def xk (g:FuncId):Bool:=match Kn g with
 | some _=>true
 | none=>beq g cg
def Bb (e:jn)(g:FuncId)(args:List AV)(Q:AE->Prop):Prop:=
 cond (xk Kn cg g) (known Kn cg e g args Q) (rM P E Fr Fz e g args .nil 0 fun c a _ S=>qF E c Q a S)
def xm (e:jn)(g:FuncId)(nx:Nat)(R:AE->ai->Nat->Prop):Nat->List AV->ai->Prop
 | 0,_,_=>False
 | d + 1, b, H => match aM (snap .nil 20) b with
   | some a=>known Kn cg e g a fun h=>R h H nx
   | none => match b.flatMap (cC H 20) with
     | []=>False
     | c :: _ => match H.get c with
       | some o=>xm e g nx R d (b.map (qb c o)) (.put c none H)
       | none=>False
def Ba (e:jn):tB:=fun g b H d R=>
 cond (xk Kn cg g) (match aM (snap .nil 20) b with
  | some a=>known Kn cg e g a fun c=>R c H d
  | none => match aM (snap H 20) b with
    | some a=>known Kn cg e g a fun c=>cond c.flat (R c H d) (xm Kn cg e g d R 10 b H)
    | none => False) (match Pu g with
  | true => match aM (snap .nil 20) b with
    | some a=>e.P g a fun c=>R c H d
    | none=>rM P E Fr Fz e g b H d fun i=>oX E i R
  | false=>rM P E Fr Fz e g b H d fun i=>oX E i R)
def ev:Nat->jn
 | 0=>⟨fun _ _ _ _ _=>False,fun _ _ _=>False⟩
 | n+1=>⟨Ba P E Kn cg Fr Fz Pu (ev n),Bb P E Kn cg Fr Fz (ev n)⟩
end
section
variable {P:Program} {E:Env} {Kn:Nat->Option (List AV->Option AV)} {cg:Nat} {Fr:Nat->Bool} {Fz:Nat->Nat->List Nat} {Pu:Nat->Bool}
structure jn.OK (P:Program)(E:Env)(e:jn):Prop where
 C:∀g args H nx R,e.C g args H nx R->DC P E g args H nx R
 P:∀g args Q,e.P g args Q->DP P E g args Q
theorem J1 {B:(AX->Nat->St->Prop)->Nat->St->Prop}{body:Code}(y:∀K nx S,B K nx S->DW P E false nx body K S){K:AX->Nat->St->Prop}{n nx:Nat}{S:St}(h:u3 B K n nx S):DW P E false nx (.loop body) K S:=by
 have o:∀(n nx:Nat) (S:St),u3 B K n nx S->∃ax nx' S',tQ P E false body (po ax nx' S') n (S.at_ nx)∧K ax nx' S':=by
  intro n
  induction n with
  | zero=>intro nx S h;exact h.elim
  | succ n u =>
    intro nx S h;obtain⟨ax,nx',S',h1,h2⟩:=y _ _ _ h;cases ax with
    | normal =>
      obtain⟨ax2,m,z,C,x⟩:=u nx' S' h2;exact⟨ax2,m,z,h1.mono fun e s he=>by grind,x⟩
    | exit i=>exact⟨_,nx',S',h1.mono fun e s he=>by grind,h2⟩
    | goto i=>exact⟨_,nx',S',h1.mono fun e s he=>by grind,h2⟩
    | ret=>exact⟨_,nx',S',h1.mono fun e s he=>by grind,h2⟩
    | aR v=>exact⟨_,nx',S',h1.mono fun e s he=>by grind,h2⟩
 obtain⟨ax,nx',S',h1,h2⟩:=o n nx S h;exact⟨ax,nx',S',SW.rounds n h1,h2⟩
theorem Gq {e:jn}(l:e.OK P E){nm:Nat}{f:AV}{args:List AV}{H:ai}{R:AV->List (Nat×Option an)->List Nat->Prop}(h:rN Fr e nm f args H R):DV P E nm f args H R:=by
 unfold rN at h;split at h
 . rename_i g m y
   dsimp only at h;split at h
   . rename_i a i
     cases s:Fr g with
     | true =>
       rw[s] at h;simp only[cond_true] at h;obtain⟨j,D,z,A,c⟩:=l.C _ _ _ _ _ h;split at c
       . rename_i B n u
         split at c
         . rename_i o t x
           cases d:(beq u o && ((t.all fun e=>e.all hY) && ble (nm+2) 16777216)) with
           | false=>rw[d] at c;exact c.elim
           | true =>
             rw[d] at c;simp only[Bool.and_eq_true] at d;have p:=eq_of_beq_eq_true d.1;subst p;exact DV.new (K0:=B) (es:=t) i ⟨_,_,_,A,rfl,x⟩ d.2.1 d.2.2 c
         . exact c.elim
       . exact c.elim
     | false =>
       rw[s] at h;refine DV.pure i (l.P _ _ _ h) fun j b=>?_
       cases j with
       | ret v=>exact⟨v,rfl,b⟩
       | aR v=>exact b.elim
   . rename_i F
     split at h
     . rename_i a i
       refine DV.flat i (l.P _ _ _ h) fun j b=>?_
       cases j with
       | ret v =>
         dsimp only at b;cases k:v.flat with
         | false=>rw[k] at b;exact b.elim
         | true=>rw[k] at b;exact⟨v,rfl,k,b⟩
       | aR v=>exact b.elim
     . exact h.elim
 . exact h.elim
theorem F8 (i:bW P E)(b:P.follows .mixedOrders=true){e:jn}(f:e.OK P E)(j:Nat->List Nat):∀(d:Nat) (a:Code) (K:AX->Nat->St->Prop) (nx:Nat) (S:St),uh E j e.C (rN Fr e) d a K nx S->DW P E false nx (.loop a) K S
 | 0,_,_,_,_,h=>h.elim
 | d + 1, a, K, nx, S, h => by
   have c:∀K nx S,ew E _ (rN Fr e) _ a K nx S->DW P E _ _ _ K S:=fun K nx S c=>oq i b f.C (fun _ _ _ _ _ h=>Gq f h) (F8 i b f j d) _ c
   simp[uh] at h;split at h
   . exact J1 c h
   exact J1 (fun K nx S h=>G4 (fun nx S h=>c K _ S h) _ _ S h) h
theorem Gn (g:bW P E)(b:P.follows .mixedOrders=true){e:jn}(d:e.OK P E){f:FuncId}{args:List AV}{H:ai}{nx:Nat}{K:Func->AX->Nat->St->Prop}(h:rM P E Fr Fz e f args H nx K) :
 ∃a code,P.funcs[f]? = some a∧a.body=some code∧args.length<2 ^ 20∧DW P E false nx code (K a) (St.init args a.ntmps H 0):=by
 unfold rM at h;split at h
 . rename_i a i
   split at h
   . rename_i code j
     cases c:(ble args.length a.ntmps && blt a.ntmps 1000000) with
     | false=>grind
     | true =>
       rw[c] at h;simp only[Bool.and_eq_true] at c;have n:=le_of_ble_eq_true c.1;have l:a.ntmps<1000000:=by simp_all
       refine⟨a,code,i,j,aa,?_⟩;rw[uD c.1];exact oq g b d.C (fun _ _ _ _ _ h=>Gq d h) (F8 g b d _ 8) _ (rO (sa (gj (fun _ _ h=>AV.gi h) h)))
   grind
 grind
theorem xo (j:∀g T args v,Kn g=some T->T args=some v->DP P E g args (· = .ret v))(c:∀g cap,DP P E g cap (· = .ret (.ao []))->DP P E cg [.fn (.func g) [] cap] (· = .ret (.int .i64 0)))
 {e:jn}(m:e.OK P E){g:FuncId}{args:List AV}{Q:AE->Prop}(h:known Kn cg e g args Q):DP P E g args Q:=by
 unfold known at h;split at h
 . rename_i T o
   split at h
   . rename_i v k
     exact(j _ _ _ _ o k).mono fun f a=>by subst a;exact AV.kG h
   grind
 split at h
 . rename_i n cap
   cases d:beq g cg with
   | false=>rw[d] at h;exact h.elim
   | true =>
     rw[d] at h;obtain rfl:=eq_of_beq_eq_true d;obtain⟨f,p,b⟩:=m.P _ _ _ h;split at b
     . exact(c n cap ⟨_,p,rfl⟩).mono fun f a=>by subst a;exact b
     . exact b.elim
 . exact h.elim
theorem G0 {nm:Nat}{o:an}:∀{l:List AV},gm (gJ nm o) l (l.map (qb nm o))
 | []=>trivial
 | x::l=>⟨BD _ o x,G0⟩
theorem HT (f:∀g T args v,Kn g=some T->T args=some v->DP P E g args (· = .ret v))(b:∀g cap,DP P E g cap (· = .ret (.ao []))->DP P E cg [.fn (.func g) [] cap] (· = .ret (.int .i64 0)))
 {e:jn}(i:e.OK P E){g:FuncId}{nx:Nat}{R:AE->ai->Nat->Prop}:∀(d:Nat) (args:List AV) (H:ai),xm Kn cg e g nx R d args H->DC P E g args H nx R
 | 0,_,_,h=>h.elim
 | d + 1, args, H, h => by
   unfold xm at h;split at h
   . rename_i a l
     exact DC.pure l (xo f b i h) (ag)
   split at h
   . exact h.elim
   . split at h
     . rename_i o m
       exact DC.wZ m G0 (HT f b i d _ _ h)
     . exact h.elim
theorem Gs (r:bW P E)(c:P.follows .mixedOrders=true)(b:∀(g:Nat) (p:Func),P.funcs[g]? = some p->p.name ≠ "runtime.NumGoroutine")
 (u:∀g T args v,Kn g=some T->T args=some v->DP P E g args (· = .ret v))(d:∀g cap,DP P E g cap (· = .ret (.ao []))->DP P E cg [.fn (.func g) [] cap] (· = .ret (.int .i64 0))):∀n,(ev P E Kn cg Fr Fz Pu n).OK P E
 | 0=>⟨fun _ _ _ _ _ h=>h.elim,fun _ _ _ h=>h.elim⟩
 | n + 1 => by
   have l:=Gs r c b u d n
   constructor
   . intro g args H B R h
     change Ba P E Kn cg Fr Fz Pu (ev P E Kn cg Fr Fz Pu n) g args H B R at h
     unfold Ba at h;cases t:xk Kn cg g with
     | true =>
       rw[t] at h;simp only[cond_true] at h;split at h
       . rename_i a w
         exact DC.pure w (xo u d l h) fun y k=>k
       . split at h
         . rename_i a w
           obtain⟨y,m,i⟩:=xo u d l h;cases D:y.flat with
           | false=>rw[D] at i;exact HT u d l 10 _ _ i
           | true=>rw[D] at i;exact DC.flat w ⟨y,m,rfl⟩ fun J K=>by subst K;exact⟨D,i⟩
         . exact h.elim
     | false =>
       rw[t] at h;simp only[cond_false] at h;have I:rM P E Fr Fz (ev P E Kn cg Fr Fz Pu n) g args H B (fun p=>oX E p R)->DC P E g args H B R:=fun h=>by
        obtain⟨p,x,m,i,C,F⟩:=Gn r c l h;exact DC.nD r m i (b _ _ m) C (F.mono fun e _ s A=>JZ A)
       split at h
       . split at h
         . rename_i a w
           exact DC.pure w (l.P _ _ _ h) fun y k=>k
         . exact I h
       . exact I h
   . intro g args Q h
     change Bb P E Kn cg Fr Fz (ev P E Kn cg Fr Fz Pu n) g args Q at h
     unfold Bb at h;cases t:xk Kn cg g with
     | true=>rw[t] at h;exact xo u d l h
     | false =>
       rw[t] at h;obtain⟨p,x,m,i,C,F⟩:=Gn r c l h;exact DP.nD r m i (b _ _ m) C (F.mono fun e _ s A=>JY A)
end
end Go.Ago
end
section
namespace Go.Ago
open List Nat
section
variable {c c':Ctx} {w:World} {n:Nat}
theorem W9:∀y:AV,y.r0 (fun k=>k)=y:=fun y=>by cases y<;>rfl
theorem xx {α:Type}{f:α->α}(h:∀x,f x=x)(l:List α):l.map f=l:=by rw[show f=id from funext h,map_id]
theorem CX:∀y:AV,y.ra (fun k=>k)=y:=fun y=>by
 cases y<;>first|rfl|simp[AV.ra];rw[xx W9]
theorem uV:∀y:AV,y.r1 (fun k=>k)=y:=fun y=>by
 cases y<;>first|(simp[AV.r1];rw[CX])|(simp only[AV.r1];rw[xx CX,xx CX])
theorem W_:∀y:AV,y.r2 (fun k=>k)=y
 | .ao _=>by simp[AV.r2];rw[xx uV]
 | .fn f _ _=>uV (.fn f _ _)
 | .cG t v=>uV (.cG t v)
 | .agg _=>uV (.agg _)
 | .any | .bool _ | .int _ _ | .str _ | .dF | .ptr _ _ _ | .bq _ | .ah | .cW | .az _ _ _ _ | .ak _ _ | .fO | .fT _ | .cY _ | .cK _ | .cZ | .eH=>rfl
theorem CW (hi:c'.au=c.au)(b:∀k,k<n->c'.f k=c.f k){y:AV}{v:Value}(a:y.l1 n=true)(h:Rel c w y v):Rel c' w y v:=sI hi b a (by rw[uV];exact h)
theorem ye (hi:c'.au=c.au)(b:∀k,k<n->c'.f k=c.f k){y:AV}{v:Value}(a:y.l2 n=true)(h:Rel c w y v):Rel c' w y v:=sJ hi b a (by rw[W_];exact h)
theorem fH.same (hi:c'.au=c.au)(y:∀k,k<n->c'.f k=c.f k){B:fp}{o:an}(A:o.lt n)(h:fH c w B o):fH c' w B o:=by
 cases o with
 | dG s Q=>exact h
 | lp T G S N F =>
   obtain⟨r,g,d,m,l,q,p,C⟩:=h;refine⟨r,g,d,m,l,q,p,fun t x E=>?_⟩
   obtain⟨v,P,K⟩:=C t x E;exact⟨v,P,ye hi y (all_eq_true.1 A (t,x) E) K⟩
 | mp H =>
   obtain⟨z,b,a,d,m,l,f,q,p,C⟩:=h;exact⟨z,b,a,d,m,l,f,q,p,fun k x e=>CW hi y (all_eq_true.1 A _ e) (C k x e)⟩
 | cm M H =>
   obtain⟨z,r,b,a,seen,d,m,l⟩:=h;have X:c'.bare=c.bare:=by unfold Ctx.bare;rw[hi]
   exact⟨z,r,b,a,seen,d,by grind,by grind⟩
 | arr U H =>
   obtain⟨arr,t,d,m,l,q,p⟩:=h;refine⟨arr,t,d,m,l,q,fun i e D=>⟨(p i e D).1,fun j x I=>?_⟩⟩
   obtain⟨v,R,O⟩:=(p i e D).2 j x I;exact⟨v,R,CW hi y (all_eq_true.1 (all_eq_true.1 A e (mem_of_getElem? D)) x (mem_of_getElem? I)) O⟩
end
variable {P:Program} {E:Env}
def AE.l2 (n:Nat):AE->Prop
 | .ret v=>v.l2 n=true
 | .aR v=>v.l2 n=true
theorem AC.RU {g:FuncId}{args:List AV}{H C:ai}{nx a:Nat}{R R0:AE->ai->Nat->Prop}(h:AC P E g args C a R0)(hl:args.all (AV.l2 a)=true)(hh:∀k o,C.get k=some o->k<a∧H.get k=some o∧o.lt a)
 (hq:∀L H' K,R0 L H' K->AE.l2 a L∧∃H2,(∀j o,H2.get j=some o->(H.get j=some o∧C.get j=none)∨∃N,C.get j=some N∧H'.get j=some o∧o.lt a)∧R L H2 nx):AC P E g args H nx R:=by
 refine⟨h.1,fun c w vs n hf W=>?_⟩
 have m:∀k,k<a->(⟨fun k=>if k<a then c.f k else none,c.au⟩:Ctx).f k=c.f k:=fun k r=>if_pos r
 have hw0:aN E.bR ⟨fun k=>if k<a then c.f k else none,c.au⟩ w C:=by
  refine⟨n.bH,fun k B e=>?_,fun k o e=>?_,fun k k' o o' B Z e e' f f' d=>?_,fun g cs e=>?_⟩
  . by_cases r : k < a
    . rw[m k r] at e;exact n.bX _ B e
    grind
  . obtain ⟨O, M, g3⟩ := hh k o e
    obtain⟨B,F,b2,V⟩:=n.obj _ _ M;exact⟨B,(m k O).trans F,b2,fH.same (c:=c) (c':=⟨fun k=>if k<a then c.f k else none,c.au⟩) rfl m g3 V⟩
  . obtain ⟨O, M, _⟩ := hh k o e
    obtain⟨g1',g2',_⟩:=hh k' o' e';rw[m k O] at f;rw[m k' g1'] at f';exact n.inj _ _ _ _ B Z M g2' f f' d
  . have := n.bR g cs e
    cases this with
    | bq D J Q h4=>exact .bq D J Q h4
 have hr0:aQ ⟨fun k=>if k<a then c.f k else none,c.au⟩ w args vs:=⟨W.1,fun i x v e e'=>ye (c:=c) (c':=⟨fun k=>if k<a then c.f k else none,c.au⟩) rfl m (all_eq_true.1 hl x (mem_of_getElem? e)) (W.2 i x v e e')⟩
 have G:∀b,Own ⟨fun k=>if k<a then c.f k else none,c.au⟩ C b->∃k N B,C.get k=some N∧H.get k=some N∧c.f k=some B∧B.b=b:=by
  rintro b ⟨k,o,B,r,X,rfl⟩
  obtain⟨O,M,_⟩:=hh k o r;rw[m k O] at X;exact⟨k,o,B,r,M,X,rfl⟩
 have y:∀b,Own ⟨fun k=>if k<a then c.f k else none,c.au⟩ C b->Own c H b:=fun b d=>by
  obtain⟨k,o,B,_,J,Q,h4⟩:=G b d;exact⟨k,o,B,J,Q,h4⟩
 refine(h.2 _ w vs hw0 (fun k r=>if_neg (Nat.not_lt.2 r)) hr0).mono ?_
 rintro e w' ⟨z,H',K,L,p,Y,_,_,T,hR⟩
 obtain⟨U,H2,hH2,hR2⟩:=hq L H' K hR;have S:∀b,c.au b->w'.heap[b]? = w.heap[b]?:=fun b d=>p.other b (n.bH b d) fun ho=>n.kO d (y b ho)
 have hle:c.le ⟨c.f,z.au⟩:=⟨fun _ _ e=>e,fun b d=>p.au b d⟩
 have I:∀{x v},Rel c w x v->Rel ⟨c.f,z.au⟩ w' x v:=fun hr=>hr.mono hle S
 have l:∀k,k<a->(⟨c.f,z.au⟩:Ctx).f k=z.f k:=fun k r=>((p.f k r).trans (m k r)).symm
 have A:∀j o,H2.get j=some o->∃o1,H.get j=some o1:=fun j o e=>by
  grind
 refine⟨⟨c.f,z.au⟩,H2,nx,L,⟨fun _ _=>rfl,fun b d=>p.au b d,p.os,p.tape,p.output,p.size,fun b d hn=>p.other b d fun ho=>hn (y b ho),fun b d=>?_,fun b d=>?_⟩,
  ⟨Y.bH,fun k B e=>Nat.lt_of_lt_of_le (n.bX k B e) p.size,fun j o e=>?_,fun k k' o o' B Z e e' f f' d=>?_,fun g cs e=>I (n.bR g cs e)⟩,Nat.le_refl _,hf,?_,hR2⟩
 . rcases p.eG b d with g | g | g
   . grind
   . grind
   omega
 . obtain ⟨j, o, B, e1, e2, rfl⟩ := d
   obtain⟨o1,e3⟩:=A j o e1;exact .inl ⟨j,o1,B,e3,e2,rfl⟩
 . rcases hH2 j o e with ⟨D, J⟩ | ⟨N, D, J, Q⟩
   . obtain ⟨B, F, b2, V⟩ := n.obj j o D
     have hno:¬Own ⟨fun k=>if k<a then c.f k else none,c.au⟩ C B.b:=fun ho=>by
      obtain⟨k,N,Z,O,M,g3,g4⟩:=G _ ho;have:=n.inj _ _ _ _ Z B M D g3 F g4
      grind
     refine⟨B,F,fun hi=>?_,V.mono (p.other _ (n.bX _ _ F) hno) I (fun b d=>⟨hle.au b d,S b d⟩)⟩
     rcases p.eG _ hi with g|g|g
     . grind
     . grind
     . have:=n.bX _ _ F;omega
   . obtain ⟨B, F, b2, V⟩ := Y.obj j o J
     have r:=(hh j N D).1;exact⟨B,(l j r).trans F,b2,fH.same (c:=z) (c':=⟨c.f,z.au⟩) rfl l Q V⟩
 . obtain ⟨o1, e1⟩ := A k o e
   obtain⟨o2,e2⟩:=A k' o' e';exact n.inj _ _ _ _ B Z e1 e2 f f' d
 . cases L with
   | ret v =>
     cases e with
     | returned u=>exact ye (c:=z) (c':=⟨c.f,z.au⟩) rfl l U T
     | panicked _=>assumption
     | outgrown=>assumption
   | aR v =>
     cases e with
     | returned u=>assumption
     | panicked _ =>
       obtain⟨u,D,J⟩:=T;exact⟨u,D,ye (c:=z) (c':=⟨c.f,z.au⟩) rfl l U J⟩
     | outgrown=>assumption
def zS (b H:ai)(a:Nat):Prop:=∀k o,b.get k=some o->k<a∧H.get k=some o∧o.lt a
theorem AC.qZ {g:FuncId}{args:List AV}{H d:ai}{nx a k:Nat}{o':an}{v:AV}{m:AE->ai->Nat->Prop}(h:AC P E g args d a m)(s:args.all (AV.l2 a)=true)(l:zS d H a)(p:ble (k+2) 16777216=true)
 (q:∀c H' b,m c H' b->c = .ret v∧v.l2 a=true∧(∃o,d.get k=some o)∧H'.get k=some o'∧o'.lt a∧∀j o,j≠k->d.get j=some o->H'.get j=some o) :
 AC P E g args H nx fun c H2 i=>c = .ret v∧H2=bk.dH H [(k,some o')]∧i=nx:=by
 have f:k+1<2 ^ 24:=by have:=le_of_ble_eq_true p;omega
 refine AC.RU h s l fun c H' b n=>?_
 obtain⟨rfl,t,⟨A,B⟩,C,y,z⟩:=q c H' b n;refine⟨t,_,fun j o e=>?_,rfl,rfl,rfl⟩
 have e:(H.set 24 k (some o')).get j=some o:=e;rw[Tr.eP 24 k _ H j f] at e
 by_cases r:j=k
 . grind
 . rw [if_neg r] at e
   cases u:d.get j with
   | none=>grind
   | some w =>
     obtain⟨D,F,x⟩:=l j w u
     grind
theorem DC.qZ {g:FuncId}{args:List AV}{H d:ai}{nx b k:Nat}{R f:AE->ai->Nat->Prop}(h:DC P E g args d b f)(p:args.all (AV.l2 b)=true)(r:zS d H b)(l:ble (k+2) 16777216=true)
 (n:∀e H' c,f e H' c->∃v o',e = .ret v∧v.l2 b=true∧(∃o,d.get k=some o)∧H'.get k=some o'∧o'.lt b∧(∀j o,j≠k->d.get j=some o->H'.get j=some o)∧R (.ret v) (bk.dH H [(k,some o')]) nx) :
 DC P E g args H nx R:=by
 obtain⟨e,H',c,i,q⟩:=h;obtain⟨v,o',rfl,z,u,w,x,y,s⟩:=n _ _ _ q;refine⟨_,_,_,AC.qZ i p r l fun a A m t=>?_,s⟩
 grind
theorem DV.qZ {nm:Nat}{g:FuncId}{b cap args:List AV}{H f:ai}{c k:Nat}{R:AV->List (Nat×Option an)->List Nat->Prop}{l:AE->ai->Nat->Prop}(rds:List Nat)(h:DC P E g (b++args++cap) f c l)(r:(b++args++cap).all (AV.l2 c)=true)(s:zS f H c)(C:∀j o,f.get j=some o->j∈rds)(p:ble (k+2) 16777216=true)
 (n:∀i H' d,l i H' d->∃v o',i = .ret v∧v.l2 c=true∧(∃o,f.get k=some o)∧H'.get k=some o'∧o'.lt c∧(∀j o,j≠k->f.get j=some o->H'.get j=some o)∧R v [(k,some o')] rds) :
 DV P E nm (.fn (.func g) b cap) args H R:=by
 obtain⟨i,H',d,q,u⟩:=h;obtain⟨v,o',rfl,F,y,z,A,B,t⟩:=n _ _ _ u;refine .inr (.inr ⟨v,rds,_,⟨g,b,cap,rfl,fun D w G=>AC.qZ q r (fun j o e=>?_) p fun a I m J=>?_⟩,t⟩)
 . obtain ⟨K, L, x⟩ := s j o e
   grind
 grind
theorem DC.RT {g:FuncId}{args c:List AV}{H:ai}{nx k l:Nat}{o p:an}{R:AE->ai->Nat->Prop}{z:AE->ai->Nat->Prop}(h:DC P E g c (.put 0 (some o) (.put 1 (some p) .nil)) 2 z)
 (C:args=c.map (AV.r2 fun j=>bif beq j 0 then k else l))(I:c.all (AV.l2 2)=true)(r:k≠l)(V:H.get k=some o)(t:H.get l=some p)(U:o.eF)(y:p.eF)
 (B:∀u H' q,z u H' q->∃i n s,u = .ret (.az 0 i n s)∧∃o',H'.get 0=some o'∧H'.get 1=some p∧o'.eF∧R (.ret (.az k i n s)) (.put k (some o') H) nx):DC P E g args H nx R:=by
 have d:∀j f,(Tr.put 0 (some o) (Tr.put 1 (some p) Tr.nil):ai).get j=some f->(j=0∧f=o)∨(j=1∧f=p):=by
  intro j f e;rw[Tr.get] at e;cases b:beq j 0 with
  | true=>simp_all
  | false =>
    rw[b] at e;simp only[cond_false] at e;rw[Tr.get] at e;cases b:beq j 1 with
    | true=>simp_all
    | false=>rw[b] at e;cases e
 obtain⟨u,H',q,D,F⟩:=h;obtain⟨i,n,s,rfl,o',G,x,J,K⟩:=B u H' q F;refine⟨_,_,nx,AC.Bp (fun j=>bif beq j 0 then k else l) D C I (fun j f e=>?_) (fun j L f M e O v=>?_) (fun a Q m N=>?_),K⟩
 . rcases d j f e with ⟨rfl, rfl⟩ | ⟨rfl, rfl⟩
   . simp_all
   . exact⟨ab,t,y⟩
 . rcases d j f e with ⟨rfl, rfl⟩ | ⟨rfl, rfl⟩ <;> rcases d L M O with ⟨rfl, rfl⟩ | ⟨rfl, rfl⟩
   . rfl
   . exact absurd v r
   . exact absurd v.symm r
   . rfl
 . obtain ⟨rfl, rfl, rfl⟩ := N
   refine⟨_,.inr ⟨0,i,n,s,ab,rfl,rfl⟩,.put k (some o') H,fun j f e=>?_,rfl,rfl,rfl⟩
   rw[Tr.get] at e;cases b:beq j k with
   | true =>
     rw[b] at e;cases e;exact .inr ⟨0,o,rfl,(eq_of_beq_eq_true b).symm,G,J⟩
   | false =>
     rw[b] at e;simp only[cond_false] at e
     by_cases A:j=l
     . subst A
       rw[t] at e;cases e;exact .inr ⟨1,p,rfl,rfl,x,y⟩
     . refine .inl ⟨e, fun S T w v => ?_⟩
       rcases d S T w with⟨rfl,rfl⟩|⟨rfl,rfl⟩
       . simp_all
       . exact A v.symm
end Go.Ago
end
