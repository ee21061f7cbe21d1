/-
  Part 12: lemmas, each with its own conditions.
-/
import Derived.LoopN
import Derived.RangeFuncOwn
import Derived.Test.YthaolifcglpkdaaGreatDoorA11
set_option maxRecDepth 100000
set_option maxHeartbeats 0
set_option linter.all false
section
namespace Go.Ago
def AV.f3 (v:AV)(k:AV→Prop):Prop:=
 match v with
 | .tup vs=>fL AV.f1 vs fun vs'=>k (.tup vs')
 | v=>v.f1 k
theorem AV.f3_s {v:AV}{k:AV→Prop}(h:v.f3 k):k v:=by
 cases v<;>first|exact fL_s (fun _ _ h=>AV.f1_s h) h|exact AV.f1_s (k:=k) h
def ret3 (E:Env)(fn:Func)(Q:AE→Prop):AX→St→Prop
 | .normal, S | .ret, S => match resA E fn S with
   | some x => match snap S.heap 20 x with
     | some y=>y.f3 fun y'=>Q (.ret y')
     | none=>False
   | none=>False
 | .pan v, S => match snap S.heap 20 v with
   | some y=>y.f3 fun y'=>Q (.pan y')
   | none=>False
 | _,_=>False
theorem ygd {E:Env}{fn:Func}{Q:AE→Prop}{e:AX}{S:St}(h:ret3 E fn Q e S):retK E fn Q e S:=by
 cases e with
 | normal =>
   simp only[ret3] at h;simp only[retK];split at h
   · split at h
     · simp_all only;exact AV.f3_s (k:=fun y=>Q (.ret y)) h
     · exact h.elim
   · exact h.elim
 | ret =>
   simp only[ret3] at h;simp only[retK];split at h
   · split at h
     · simp_all only;exact AV.f3_s (k:=fun y=>Q (.ret y)) h
     · exact h.elim
   · exact h.elim
 | pan v =>
   simp only[ret3] at h;simp only[retK];split at h
   · simp_all only;exact AV.f3_s (k:=fun y=>Q (.pan y)) h
   · exact h.elim
 | exit i=>exact h
 | goto i=>exact h
section
variable {P:Program} {E:Env} {rr:Bool}
theorem zaf {f:FuncId}{fn:Func}{code:Code}{args:List AV}{Q:AE→Prop}(hE:EnvOK P E)(hmix:P.follows .mixedOrders=true)(hf:P.funcs[f]? = some fn)(hb:fn.body=some code)(hn:fn.name ≠ "runtime.NumGoroutine")
 (hl:Nat.ble args.length fn.ntmps=true)(hs:Nat.blt fn.ntmps 1000000=true)(h:fL AV.f1 args fun args'=>yam args' 0 .nil fun sl=>fN fn.ntmps fun n=>daw3 P E false code (fun e _ S=>ret3 E fn Q e S) 0 ⟨sl,n,.nil,0⟩):DP P E f args Q:=by
 have h1:=Nat.le_of_ble_eq_true hl;have h2:fn.ntmps<1000000:=by simpa using hs
 refine zwo hE hf hb hn (by omega) ?_
 rw[zs8 hl];exact(zbq hE hmix code (fN_s (zpf (fL_s (fun _ _ h=>AV.f1_s h) h)))).mono fun e _ s he=>ygd he
def WkM (P:Program)(E:Env)(m:Nat)(S S':St):Prop:=
 ∀c a w,Sim P E c S a w→∃c',(∀k,k<m→c'.f k=c.f k)∧(∀b,c.imm b→c'.imm b)∧(∀b,c'.imm b→c.imm b∨Own c S.heap b)∧(∀b,Own c' S'.heap b→Own c S.heap b)∧Sim P E c' S' a w
theorem zwl {α:Type}(L:α→St)(μ:α→Nat){body:Code}{K:AX→St→Prop}{S:St}(x0:α)(h0:WkM P E S.next S (L x0))(hn:∀x,S.next≤(L x).next)
 (h : ∀ x, SW P E rr body (fun e S'=>match e with
   | .normal=>∃x',WkM P E S.next S' (L x')∧μ x'<μ x
   | e=>K e S') (L x)):SW P E rr (.loop body) K S:=by
 intro r hr m hm c a w hs;have enter:∀{c1:Ctx} {S1:St} {a1:Act} {w1:World} {x:α},ExtA m c a w S.heap c1 a1 w1 S1.heap→Sim P E c1 S1 a1 w1→WkM P E S.next S1 (L x)→∃c',ExtA m c a w S.heap c' a1 w1 (L x).heap∧Sim P E c' (L x) a1 w1:=by
  intro c1 S1 a1 w1 x hx h1 hwk;obtain⟨c',e1,e2,e3,e4,e5⟩:=hwk c1 a1 w1 h1;exact⟨c',hx.thenM ⟨fun k hk=>e1 k (by omega),e2,rfl,rfl,rfl,Nat.le_refl _,fun _ _ _=>rfl,fun b hb=>(e3 b hb).ip id .inl,fun b hb => .inl (e4 b hb)⟩ rfl,e5⟩
 refine zlo (fun n a' w'=>∃x c',μ x=n∧ExtA m c a w S.heap c' a' w' (L x).heap∧Sim P E c' (L x) a' w') (μ x0) ?_ ?_
 · obtain ⟨c', h1, h2⟩ := enter (ExtA.refl m c a w _) hs h0
   exact⟨x0,c',rfl,h1,h2⟩
 · rintro n a1 w1 ⟨x, c1, rfl, hx, h1⟩
   refine wpIn_mono (h x r hr m (Nat.le_trans hm (hn x)) c1 a1 w1 h1) ?_
   rintro e a2 w2 ⟨c2,S2,ax,g1,g2,g3,g4,g5⟩
   have hx2:=hx.trans g1;have hn2:=Nat.le_trans (hn x) g2;cases ax with
   | normal =>
     cases e<;>first|exact g4.elim|skip
     obtain⟨x',k1,k2⟩:=g5;obtain⟨c',e1,e2⟩:=enter hx2 g3 k1;exact⟨_,k2,x',c',rfl,e1,e2⟩
   | exit i=>cases e<;>first|exact g4.elim|exact⟨c2,S2,_,hx2,hn2,g3,g4,g5⟩
   | goto i=>cases e<;>first|exact g4.elim|exact⟨c2,S2,_,hx2,hn2,g3,g4,g5⟩
   | ret=>cases e<;>first|exact g4.elim|exact⟨c2,S2,_,hx2,hn2,g3,g4,g5⟩
   | pan v=>cases e<;>first|exact g4.elim|exact⟨c2,S2,_,hx2,hn2,g3,g4,g5⟩
theorem DW.loop {α:Type}(L:α→St)(nl:Nat)(μ:α→Nat){body:Code}{K:AX→Nat→St→Prop}{nx:Nat}{S:St}(x0:α)(hn:nx≤nl)(h0:WkM P E nx (S.at_ nx) ((L x0).at_ nl))
 (h : ∀ x, DW P E rr nl body (fun e nx' S'=>match e with
   | .normal=>∃x',WkM P E nx (S'.at_ nx') ((L x').at_ nl)∧μ x'<μ x
   | e=>K e nx' S') (L x)):DW P E rr nx (.loop body) K S:=by
 
 have hend : ∀ n x, μ x = n → ∃ ax nx' S', K ax nx' S' ∧ ∃ T : α → Prop, T x ∧ ∀ y, T y → SW P E rr body (fun e s=>match e with
  | .normal=>∃y',T y'∧WkM P E nx s ((L y').at_ nl)∧μ y'<μ y
  | e=>e=ax∧s=S'.at_ nx') ((L y).at_ nl):=by
  intro n
  induction n using Nat.strongRecOn with
  | ind n ih =>
    intro x hx;obtain⟨ax,nx',S',h1,h2⟩:=h x;cases ax with
    | normal =>
      obtain⟨x',k1,k2⟩:=h2;obtain⟨ax2,nx2,S2,g1,T,g2,g3⟩:=ih (μ x') (by omega) x' rfl
      refine⟨ax2,nx2,S2,g1,fun y=>y=x∨T y,.inl rfl,?_⟩
      rintro y (rfl|hy)
      · refine h1.mono fun e s he => ?_
        obtain⟨rfl,rfl⟩:=he;exact⟨x',.inr g2,k1,k2⟩
      · refine (g3 y hy).mono fun e s he => ?_
        cases e with
        | normal =>
          obtain⟨y',e1,e2,e3⟩:=he;exact⟨y',.inr e1,e2,e3⟩
        | _=>exact he
    | exit i=>exact⟨_,nx',S',h2,fun y=>y=x,rfl,by rintro y rfl;exact h1.mono fun e s he=>by obtain⟨rfl,rfl⟩:=he;exact⟨rfl,rfl⟩⟩
    | goto i=>exact⟨_,nx',S',h2,fun y=>y=x,rfl,by rintro y rfl;exact h1.mono fun e s he=>by obtain⟨rfl,rfl⟩:=he;exact⟨rfl,rfl⟩⟩
    | ret=>exact⟨_,nx',S',h2,fun y=>y=x,rfl,by rintro y rfl;exact h1.mono fun e s he=>by obtain⟨rfl,rfl⟩:=he;exact⟨rfl,rfl⟩⟩
    | pan v=>exact⟨_,nx',S',h2,fun y=>y=x,rfl,by rintro y rfl;exact h1.mono fun e s he=>by obtain⟨rfl,rfl⟩:=he;exact⟨rfl,rfl⟩⟩
 obtain⟨ax,nx',S',hK,T,hT,hS⟩:=hend _ x0 rfl;refine⟨ax,nx',S',?_,hK⟩;refine zwl (α:={ x // T x }) (fun x=>(L x.1).at_ nl) (fun x=>μ x.1) ⟨x0,hT⟩ h0 (fun x=>hn) ?_
 rintro⟨x,hx⟩
 refine(hS x hx).mono fun e s he=>?_
 cases e with
 | normal =>
   obtain⟨y',e1,e2,e3⟩:=he;exact⟨⟨y',e1⟩,e2,e3⟩
 | _=>exact he
def SWr (P:Program)(E:Env)(rr:Bool)(body:Code)(K:AX→St→Prop):Nat→St→Prop
 | 0,_=>False
 | n + 1, S => SW P E rr body (fun e S' => match e with
   | .normal=>SWr P E rr body K n S'
   | e=>K e S') S
theorem zsj {body:Code}{K:AX→St→Prop}(n:Nat){S:St}(h:SWr P E rr body K n S):SW P E rr (.loop body) K S:=by
 intro r hrr m hm c a w hs;refine wpIn_loop_rounds n ?_;have key:∀(n:Nat) (S1:St) (c1:Ctx) (a1:Act) (w1:World),ExtA m c a w S.heap c1 a1 w1 S1.heap→S.next≤S1.next→Sim P E c1 S1 a1 w1→SWr P E rr body K n S1 →
  Code.roundsIn (FR r) 0 P body (QS P E m c a w S K) n a1 w1:=by
  intro n
  induction n with
  | zero=>intro S1 c1 a1 w1 _ _ _ h;exact h.elim
  | succ n ih =>
    intro S1 c1 a1 w1 hx hn hs1 h;refine wpIn_mono (h r hrr m (Nat.le_trans hm hn) c1 a1 w1 hs1) ?_
    rintro e a2 w2 ⟨c2,S2,ax,g1,g2,g3,g4,g5⟩
    have hx2:=hx.trans g1;have hn2:=Nat.le_trans hn g2;cases ax with
    | normal =>
      cases e<;>first|exact g4.elim|skip
      exact ih S2 c2 a2 w2 hx2 hn2 g3 g5
    | exit i=>cases e<;>first|exact g4.elim|exact⟨c2,S2,_,hx2,hn2,g3,g4,g5⟩
    | goto i=>cases e<;>first|exact g4.elim|exact⟨c2,S2,_,hx2,hn2,g3,g4,g5⟩
    | ret=>cases e<;>first|exact g4.elim|exact⟨c2,S2,_,hx2,hn2,g3,g4,g5⟩
    | pan v=>cases e<;>first|exact g4.elim|exact⟨c2,S2,_,hx2,hn2,g3,g4,g5⟩
 exact key n S c a w (ExtA.refl m c a w _) (Nat.le_refl _) hs h
def dawR (P:Program)(E:Env)(rr:Bool)(body:Code)(K:AX→Nat→St→Prop):Nat→Nat→St→Prop
 | 0,_,_=>False
 | n + 1, nx, S => daw3 P E rr body (fun e nx' S' => match e with
   | .normal=>dawR P E rr body K n nx' S'
   | e=>K e nx' S') nx S
theorem zea (hE:EnvOK P E)(hmix:P.follows .mixedOrders=true){body:Code}{K:AX→Nat→St→Prop}(n:Nat){nx:Nat}{S:St}(h:dawR P E rr body K n nx S):DW P E rr nx (.loop body) K S:=by
 have key:∀(n nx:Nat) (S:St),dawR P E rr body K n nx S→∃ax nx' S',SWr P E rr body (Ex1 ax nx' S') n (S.at_ nx)∧K ax nx' S':=by
  intro n
  induction n with
  | zero=>intro nx S h;exact h.elim
  | succ n ih =>
    intro nx S h;obtain⟨ax,nx',S',h1,h2⟩:=zbq hE hmix body h;cases ax with
    | normal =>
      obtain⟨ax2,nx2,S2,g1,g2⟩:=ih nx' S' h2;exact⟨ax2,nx2,S2,h1.mono fun e s he=>by obtain⟨rfl,rfl⟩:=he;exact g1,g2⟩
    | exit i=>exact⟨_,nx',S',h1.mono fun e s he=>by obtain⟨rfl,rfl⟩:=he;exact⟨rfl,rfl⟩,h2⟩
    | goto i=>exact⟨_,nx',S',h1.mono fun e s he=>by obtain⟨rfl,rfl⟩:=he;exact⟨rfl,rfl⟩,h2⟩
    | ret=>exact⟨_,nx',S',h1.mono fun e s he=>by obtain⟨rfl,rfl⟩:=he;exact⟨rfl,rfl⟩,h2⟩
    | pan v=>exact⟨_,nx',S',h1.mono fun e s he=>by obtain⟨rfl,rfl⟩:=he;exact⟨rfl,rfl⟩,h2⟩
 obtain⟨ax,nx',S',h1,h2⟩:=key n nx S h;exact⟨ax,nx',S',zsj n h1,h2⟩
end
end Go.Ago
end
section
namespace Go.Ago
def AV.r0 (ρ:Nat→Nat):AV→AV
 | .ptr k i o => .ptr (ρ k) i o
 | .slc k i n s => .slc (ρ k) i n s
 | .mapp k => .mapp (ρ k)
 | .mpo k => .mpo (ρ k)
 | v=>v
def AV.ra (ρ:Nat→Nat):AV→AV
 | .agg cs => .agg (cs.map (AV.r0 ρ))
 | v=>v.r0 ρ
def AV.r1 (ρ:Nat→Nat):AV→AV
 | .ifc t v => .ifc t (v.ra ρ)
 | .fn f xs ys => .fn f (xs.map (AV.ra ρ)) (ys.map (AV.ra ρ))
 | v=>v.ra ρ
def AV.r2 (ρ:Nat→Nat):AV→AV
 | .tup vs => .tup (vs.map (AV.r1 ρ))
 | v=>v.r1 ρ
def AV.l0 (n:Nat):AV→Bool
 | .ptr k _ _=>Nat.blt k n
 | .slc k _ _ _=>Nat.blt k n
 | .mapp k=>Nat.blt k n
 | .mpo k=>Nat.blt k n
 | .agg _=>false
 | .ifc _ _=>false
 | .fn _ xs ys=>xs.isEmpty && ys.isEmpty
 | .tup _=>false
 | _=>true
def AV.la (n:Nat):AV→Bool
 | .agg cs=>cs.all (AV.l0 n)
 | v=>v.l0 n
def AV.l1 (n:Nat):AV→Bool
 | .ifc _ v=>v.la n
 | .fn _ xs ys=>xs.all (AV.la n) && ys.all (AV.la n)
 | v=>v.la n
def AV.l2 (n:Nat):AV→Bool
 | .tup vs=>vs.all (AV.l1 n)
 | v=>v.l1 n
def AObj.ren (ρ:Nat→Nat):AObj→AObj
 | .arr sz es => .arr sz (es.map (List.map (AV.r1 ρ)))
 | .sit s pos => .sit s pos
 | .lp st pend sl nsl code => .lp st pend (sl.map fun p=>(p.1,p.2.r2 ρ)) nsl code
 | .mp es => .mp (es.map fun p=>(p.1,p.2.r1 ρ))
 | .mit cur es => .mit cur es
def AObj.lt (n:Nat):AObj→Prop
 | .arr _ es=>(es.all fun e=>e.all (AV.l1 n))=true
 | .sit _ _=>True
 | .lp _ _ sl _ _=>(sl.all fun p=>p.2.l2 n)=true
 | .mp es=>(es.all fun p=>p.2.l1 n)=true
 | .mit _ _=>True
section
variable {c c':Ctx} {w:World} {ρ:Nat→Nat} {n:Nat}
theorem zzh (hi:c'.imm=c.imm)(hf:∀k,k<n→c'.f k=c.f (ρ k)){y:AV}{v:Value}(hl:y.l0 n=true)(h:Rel c w (y.r0 ρ) v):Rel c' w y v:=by
 have hb:c'.bare=c.bare:=by unfold Ctx.bare;rw[hi]
 cases y with
 | any=>exact .any v
 | bool b=>cases h;exact .bool b
 | int k m=>cases h;exact .int k m
 | str l=>cases h;exact .str l
 | nilp=>cases h;exact .nilp
 | ptr k i o =>
   have hk:k<n:=by simpa[AV.l0] using hl
   cases h with
   | ptr h=>exact .ptr ((hf k hk).trans h)
 | rptr cs =>
   cases h with
   | rptr h1 h2 h3 h4=>exact .rptr (by rw[hi];exact h1) h2 h3 (fun i x v e e'=>by rw[hb];exact h4 i x v e e')
 | nils=>cases h;exact .nils
 | empt =>
   cases h with
   | empt a=>exact .empt a
   | emptn=>exact .emptn
 | slc k i m s =>
   have hk:k<n:=by simpa[AV.l0] using hl
   cases h with
   | slc h1 h2 h3 h4=>exact .slc ((hf k hk).trans h1) h2 h3 h4
 | rsl s es =>
   cases h with
   | rsl vs h1 h2 h3 h4 h5=>exact .rsl vs h1 (by rw[hi];exact h2) h3 h4 (fun i j e x e1 e2=>by rw[hb];exact h5 i j e x e1 e2)
   | rnil=>exact .rnil s
 | nilm=>cases h;exact .nilm
 | mapp k =>
   have hk:k<n:=by simpa[AV.l0] using hl
   cases h with
   | mapp h=>exact .mapp ((hf k hk).trans h)
 | mpo k =>
   have hk:k<n:=by simpa[AV.l0] using hl
   cases h with
   | mpo h=>exact .mpo ((hf k hk).trans h)
 | rmp es =>
   cases h with
   | rmp f h1 h2 h3 h4 h5 h6 h7=>exact .rmp f (by rw[hi];exact h1) h2 h3 h4 h5 h6 (fun k x e=>by rw[hb];exact h7 k x e)
 | fn f xs ys =>
   simp only[AV.l0,Bool.and_eq_true,List.isEmpty_iff] at hl;obtain⟨rfl,rfl⟩:=hl;cases h with
   | @fn _ _ _ _ _ vs us h1 h2 h3 h4 =>
     have e1:vs=[]:=List.eq_nil_of_length_eq_zero h1.symm;have e2:us=[]:=List.eq_nil_of_length_eq_zero h2.symm;subst e1;subst e2;exact .fn f rfl rfl (by simp) (by simp)
 | nilf=>cases h;exact .nilf
 | ifc t v=>cases hl
 | nili=>cases h;exact .nili
 | agg cs=>cases hl
 | tup vs=>cases hl
theorem zfy {f:AV→AV}{l:AV→Bool}(hf:∀y v,l y=true→Rel c w (f y) v→Rel c' w y v){ys:List AV}{vs:List Value}(hl:ys.all l=true)(h1:(ys.map f).length=vs.length)
 (h:∀(i:Nat) x v,(ys.map f)[i]? = some x→vs[i]? = some v→Rel c w x v):ys.length=vs.length∧∀(i:Nat) x v,ys[i]? = some x→vs[i]? = some v→Rel c' w x v:=by
 refine⟨by simpa using h1,fun i x v e e'=>hf x v ?_ (h i (f x) v (by simp[e]) e')⟩
 exact List.all_eq_true.1 hl x (List.mem_of_getElem? e)
theorem zu3 (hi:c'.imm=c.imm)(hf:∀k,k<n→c'.f k=c.f (ρ k)){y:AV}{v:Value}(hl:y.la n=true)(h:Rel c w (y.ra ρ) v):Rel c' w y v:=by
 by_cases hy:∃cs,y = .agg cs
 · obtain ⟨cs, rfl⟩ := hy
   cases h with
   | agg h1 h2 =>
     obtain⟨g1,g2⟩:=zfy (fun y v a b=>zzh hi hf a b) hl h1 h2
     exact .agg g1 g2
 · have e1 : y.ra ρ = y.r0 ρ := by cases y <;> first | rfl | exact absurd ⟨_, rfl⟩ hy
   have e2:y.la n=y.l0 n:=by cases y<;>first|rfl|exact absurd ⟨_,rfl⟩ hy
   rw[e1] at h;rw[e2] at hl;exact zzh hi hf hl h
theorem zqp (hi:c'.imm=c.imm)(hf:∀k,k<n→c'.f k=c.f (ρ k)){y:AV}{v:Value}(hl:y.l1 n=true)(h:Rel c w (y.r1 ρ) v):Rel c' w y v:=by
 cases y with
 | ifc t y =>
   cases h with
   | ifc _ h=>exact .ifc t (zu3 hi hf hl h)
 | fn f xs ys =>
   simp only[AV.l1,Bool.and_eq_true] at hl;cases h with
   | fn _ h1 h2 h3 h4 =>
     obtain⟨g1,g2⟩:=zfy (fun y v a b=>zu3 hi hf a b) hl.1 h1 h3
     obtain⟨g3,g4⟩:=zfy (fun y v a b=>zu3 hi hf a b) hl.2 h2 h4
     exact .fn f g1 g3 g2 g4
 | _=>exact zu3 hi hf hl h
theorem zqo (hi:c'.imm=c.imm)(hf:∀k,k<n→c'.f k=c.f (ρ k)){y:AV}{v:Value}(hl:y.l2 n=true)(h:Rel c w (y.r2 ρ) v):Rel c' w y v:=by
 cases y with
 | tup vs =>
   cases h with
   | tup h1 h2 =>
     obtain⟨g1,g2⟩:=zfy (fun y v a b=>zqp hi hf a b) hl h1 h2
     exact .tup g1 g2
 | _=>exact zqp hi hf hl h
end
def look:List (Nat×Nat)→Nat→Nat
 | [],k=>k
 | (a,b)::l,k=>bif Nat.beq k a then b else look l k
def renN (m:Nat)(l:List (Nat×Nat))(k:Nat):Nat:=bif Nat.blt k m then k else look l k
section
variable {P:Program} {E:Env} {rr:Bool}
theorem WkM.ren {m nl nx:Nat}(ρ:Nat→Nat)(hρ:∀k,k<m→ρ k=k)(hm:m≤nl){S S':St}(hn:S'.nsl=S.nsl)(hs:∀t y,S'.slots.get t=some y→S.slots.get t=some (y.r2 ρ)∧y.l2 nl=true)
 (hh:∀k o,S'.heap.get k=some o→k<nl∧S.heap.get (ρ k)=some (o.ren ρ)∧o.lt nl)(hi:∀k k' o o',S'.heap.get k=some o→S'.heap.get k'=some o'→ρ k=ρ k'→k=k'):WkM P E m (S.at_ nx) (S'.at_ nl):=by
 intro c a w h;refine⟨⟨fun k=>if k<nl then c.f (ρ k) else none,c.imm⟩,fun k hk=>?_,fun _ h=>h,fun _ h => .inl h,?_,?_⟩
 · show (if k < nl then c.f (ρ k) else none) = c.f k
   rw[if_pos (Nat.lt_of_lt_of_le hk hm),hρ k hk]
 · rintro b ⟨k, o, B, hk, hf, rfl⟩
   obtain⟨g1,g2,_⟩:=hh k o hk;have hf':c.f (ρ k)=some B:=by simpa[g1] using hf
   exact⟨ρ k,_,B,g2,hf',rfl⟩
 · have hf : ∀ k, k < nl → (⟨fun k => if k < nl then c.f (ρ k) else none, c.imm⟩ : Ctx).f k = c.f (ρ k) := fun k hk => if_pos hk
   have hi0:(⟨fun k=>if k<nl then c.f (ρ k) else none,c.imm⟩:Ctx).imm=c.imm:=rfl
   refine⟨h.size.trans hn.symm,fun t y e=>?_,h.defers.mono (Nat.le_refl _) (fun D _ h1 h2=>⟨h1,h2⟩),⟨h.wrel.imm_lt,?_,?_,?_,?_⟩,fun k hk=>if_neg (Nat.not_lt.2 hk)⟩
   · obtain ⟨g1, g2⟩ := hs t y e
     obtain⟨v,e1,e2⟩:=h.slots t _ g1;exact⟨v,e1,zqo hi0 hf g2 e2⟩
   · intro k B e
     by_cases hk:k<nl
     · rw[hf k hk] at e;exact h.wrel.f_lt _ B e
     · simp[hk] at e
   · intro k o e
     obtain⟨g1,g2,g3⟩:=hh k o e;obtain⟨B,b1,b2,b3⟩:=h.wrel.obj _ _ g2;refine⟨B,(hf k g1).trans b1,b2,?_⟩;cases o with
     | sit s pos=>exact b3
     | lp st pend sl nsl code =>
       obtain⟨r,g,a1,a2,a3,a4,a5,a6⟩:=b3;refine⟨r,g,a1,a2,a3,a4,a5,fun t x hm=>?_⟩
       obtain⟨v,v1,v2⟩:=a6 t (x.r2 ρ) (List.mem_map.2 ⟨(t,x),hm,rfl⟩);exact⟨v,v1,zqo hi0 hf (List.all_eq_true.1 g3 (t,x) hm) v2⟩
     | mp es =>
       obtain⟨a0,mes,clock,a1,a2,a3,f,a4,a5,a6⟩:=b3;have hmem:∀k x,(k,x)∈es→(k,x.r1 ρ)∈es.map fun p=>(p.1,p.2.r1 ρ):=fun k x e=>List.mem_map.2 ⟨(k,x),e,rfl⟩
       refine⟨a0,mes,clock,a1,a2,by simpa[RisK,Function.comp_def] using a3,f,fun k x e=>a4 k _ (hmem k x e),fun e he=>?_,fun k x e=>zqp hi0 hf (List.all_eq_true.1 g3 _ e) (a6 k _ (hmem k x e))⟩
       obtain⟨k,x,h1,h2⟩:=a5 e he;obtain⟨p,hp,hpe⟩:=List.mem_map.1 h1;cases hpe;exact⟨p.1,p.2,hp,h2⟩
     | mit cur es=>exact b3
     | arr sz es =>
       obtain⟨arr,t,a1,a2,a3,a4,a5⟩:=b3;refine⟨arr,t,a1,a2,a3,by simpa using a4,fun i e he=>?_⟩
       obtain⟨f1,f2⟩:=a5 i (e.map (AV.r1 ρ)) (by simp[he])
       refine⟨by simpa using f1,fun j x hx=>?_⟩
       obtain⟨v,v1,v2⟩:=f2 j (x.r1 ρ) (by simp[hx])
       exact⟨v,v1,zqp hi0 hf (List.all_eq_true.1 (List.all_eq_true.1 g3 e (List.mem_of_getElem? he)) x (List.mem_of_getElem? hx)) v2⟩
   · intro k k' o o' B B' e e' f f' hb
     obtain⟨g1,g2,_⟩:=hh k o e;obtain⟨g1',g2',_⟩:=hh k' o' e';rw[hf k g1] at f;rw[hf k' g1'] at f';exact hi k k' o o' e e' (h.wrel.inj _ _ _ _ B B' g2 g2' f f' hb)
   · intro g cs e
     exact zzh (ρ:=ρ) (n:=nl) hi0 hf rfl (h.wrel.glob g cs e)
inductive Root where
 | slot (t:Nat)
 | cell (k j:Nat)
def ygi:AV→Option Nat
 | .ptr k _ _=>some k
 | .slc k _ _ _=>some k
 | .mapp k=>some k
 | .mpo k=>some k
 | _=>none
def Root.find (S:St):Root→Option Nat
 | .slot t => match S.slots.get t with
   | some v=>ygi v
   | none=>none
 | .cell k j => match S.heap.get k with
   | some (.arr _ (e :: _)) => match e[j]? with
     | some v=>ygi v
     | none=>none
   | _=>none
def zqz (S:St):List (Nat×Root)→List (Nat×Nat)
 | []=>[]
 | (K, r) :: l => match r.find S with
   | some j=>(K,j)::zqz S l
   | none=>zqz S l
def ofS:List (Nat×AV)→Tr AV
 | [] => .nil
 | (t,v)::l => .put t (some v) (ofS l)
def ofH:List (Nat×AObj)→zah
 | [] => .nil
 | (t,v)::l => .put t (some v) (ofH l)
theorem zjw:∀{l:List (Nat×AV)} {t:Nat} {y:AV},(ofS l).get t=some y→(t,y)∈l
 | [],t,y,h=>by cases h
 | (k, v) :: l, t, y, h => by
   rw[ofS,Tr.get] at h;cases e:Nat.beq t k with
   | true =>
     rw[e] at h;have:=Nat.eq_of_beq_eq_true e;subst this;cases h;exact List.mem_cons_self
   | false=>rw[e] at h;exact List.mem_cons_of_mem _ (zjw h)
theorem zia:∀{l:List (Nat×AObj)} {t:Nat} {y:AObj},(ofH l).get t=some y→(t,y)∈l
 | [],t,y,h=>by cases h
 | (k, v) :: l, t, y, h => by
   rw[ofH,Tr.get] at h;cases e:Nat.beq t k with
   | true =>
     rw[e] at h;have:=Nat.eq_of_beq_eq_true e;subst this;cases h;exact List.mem_cons_self
   | false=>rw[e] at h;exact List.mem_cons_of_mem _ (zia h)
def chkS (ρ:Nat→Nat)(nl:Nat)(S:St):List (Nat×AV)→Prop
 | []=>True
 | (t, y) :: l => (match S.slots.get t with
   | some x=>x=y.r2 ρ∧y.l2 nl=true
   | none=>False)∧chkS ρ nl S l
def chkH (ρ:Nat→Nat)(nl:Nat)(S:St):List (Nat×AObj)→Prop
 | []=>True
 | (k, o) :: l => (Nat.blt k nl = true ∧ match S.heap.get (ρ k) with
   | some x=>x=o.ren ρ∧o.lt nl
   | none=>False)∧chkH ρ nl S l
def chkI (ρ:Nat→Nat):List Nat→Bool
 | []=>true
 | k::l=>l.all (fun j=>!Nat.beq (ρ k) (ρ j) || Nat.beq k j) && chkI ρ l
theorem yb2 {ρ:Nat→Nat}{nl:Nat}{S:St}:∀{l:List (Nat×AV)},chkS ρ nl S l→∀t y,(t,y)∈l→S.slots.get t=some (y.r2 ρ)∧y.l2 nl=true
 | (t, y) :: l, h, t', y', hm => by
   rcases List.mem_cons.1 hm with e|hm
   · cases e
     have h1:=h.1;split at h1
     · rename_i x hx;exact⟨by rw[hx,h1.1],h1.2⟩
     · exact h1.elim
   · exact yb2 h.2 t' y' hm
theorem yg1 {ρ:Nat→Nat}{nl:Nat}{S:St}:∀{l:List (Nat×AObj)},chkH ρ nl S l→∀k o,(k,o)∈l→k<nl∧S.heap.get (ρ k)=some (o.ren ρ)∧o.lt nl
 | (k, o) :: l, h, k', o', hm => by
   rcases List.mem_cons.1 hm with e|hm
   · cases e
     obtain⟨h0,h1⟩:=h.1;split at h1
     · rename_i x hx;exact⟨by simpa using h0,by rw[hx,h1.1],h1.2⟩
     · exact h1.elim
   · exact yg1 h.2 k' o' hm
theorem yb3 {ρ:Nat→Nat}:∀{l:List Nat},chkI ρ l=true→∀k∈l,∀k'∈l,ρ k=ρ k'→k=k'
 | k :: l, h, a, ha, b, hb, he => by
   simp only[chkI,Bool.and_eq_true,List.all_eq_true,Bool.or_eq_true,Bool.not_eq_true'] at h;have key:∀j∈l,ρ k=ρ j→k=j:=fun j hj e=>by
    rcases h.1 j hj with h|h
    · rw[e] at h;simp at h
    · exact Nat.eq_of_beq_eq_true h
   rcases List.mem_cons.1 ha with e1|ha'
   · rcases List.mem_cons.1 hb with e2 | hb'
     · rw[e1,e2]
     · exact e1.trans (key b hb' (by rw[← e1];exact he))
   · rcases List.mem_cons.1 hb with e2 | hb'
     · exact((key a ha' (by rw[← e2];exact he.symm)).symm).trans e2.symm
     · exact yb3 h.2 a ha' b hb' he
def chkW (m nl:Nat)(roots:List (Nat×Root))(S:St)(sl:List (Nat×AV))(hl:List (Nat×AObj)):Prop:=
 (chkI (renN m (zqz S roots)) (hl.map (·.1))=true∧chkS (renN m (zqz S roots)) nl S sl)∧chkH (renN m (zqz S roots)) nl S hl
theorem zoh {m nl nx:Nat}(hm:m≤nl){roots:List (Nat×Root)}{S:St}{sl:List (Nat×AV)}{hl:List (Nat×AObj)}(h:chkW m nl roots S sl hl):WkM P E m (S.at_ nx) ((⟨ofS sl,S.nsl,ofH hl,0⟩:St).at_ nl):=by
 obtain⟨⟨h1,h2⟩,h3⟩:=h;refine WkM.ren (renN m (zqz S roots)) (fun k hk=>?_) hm rfl (fun t y e=>yb2 h2 t y (zjw e)) (fun k o e=>yg1 h3 k o (zia e)) (fun k k' o o' e e' he=>yb3 h1 k (List.mem_map.2 ⟨_,zia e,rfl⟩) k' (List.mem_map.2 ⟨_,zia e',rfl⟩) he)
 unfold renN;rw[show Nat.blt k m=true by simpa using hk]
 rfl
def zmc (S:St):List Nat→(List (Nat×AV)→Prop)→Prop
 | [],k=>k []
 | t :: l, k => match S.slots.get t with
   | some v=>v.f3 fun v'=>zmc S l fun r=>k ((t,v')::r)
   | none=>zmc S l k
def zni:zah→List Nat→(List (Nat×AObj)→Prop)→Prop
 | .put n o t, seen, k => cond (seen.contains n) (zni t seen k) (match o with
   | some o=>zni t (n::seen) fun r=>k ((n,o)::r)
   | none=>zni t (n::seen) k)
 | .fam _ _ _ t,seen,k=>zni t seen k
 | .nil,_,k=>k []
 | .node _ _ _,_,k=>k []
def zen:List (Nat×AV)→(List (Nat×AV)→Prop)→Prop
 | [],k=>k []
 | (t,v)::l,k=>v.f3 fun v'=>zen l fun r=>k ((t,v')::r)
def ofSK:List (Nat×AV)→(Tr AV→Prop)→Prop
 | [],k=>k .nil
 | (t,v)::l,k=>ofSK l fun r=>k (.put t (some v) r)
def ofHK:List (Nat×AObj)→(zah→Prop)→Prop
 | [],k=>k .nil
 | (t,v)::l,k=>ofHK l fun r=>k (.put t (some v) r)
def appK {β:Type}:List β→List β→(List β→Prop)→Prop
 | [],r,k=>k r
 | x::l,r,k=>appK l r fun r'=>k (x::r')
theorem zjz {S:St}:∀{l:List Nat} {k:List (Nat×AV)→Prop},zmc S l k→∃r,k r
 | [],_,h=>⟨[],h⟩
 | t :: l, k, h => by
   simp only[zmc] at h;split at h
   · obtain⟨r,hr⟩:=zjz (AV.f3_s h);exact⟨_,hr⟩
   · exact zjz h
theorem zgr:∀{t:zah} {seen:List Nat} {k:List (Nat×AObj)→Prop},zni t seen k→∃r,k r
 | .put n o t, seen, k, h => by
   simp only[zni] at h;cases hc:seen.contains n with
   | true=>rw[hc] at h;exact zgr (t:=t) h
   | false =>
     rw[hc] at h;simp only[cond_false] at h;split at h
     · obtain⟨r,hr⟩:=zgr (t:=t) h;exact⟨_,hr⟩
     · exact zgr (t:=t) h
 | .fam _ _ _ t,_,_,h=>zgr (t:=t) h
 | .nil,_,_,h=>⟨[],h⟩
 | .node _ _ _,_,_,h=>⟨[],h⟩
theorem zc1:∀{l:List (Nat×AV)} {k:List (Nat×AV)→Prop},zen l k→k l
 | [],_,h=>h
 | (t,v)::l,k,h=>zc1 (l:=l) (AV.f3_s (k:=fun v'=>zen l fun r=>k ((t,v')::r)) h)
theorem zkb:∀{l:List (Nat×AV)} {k:Tr AV→Prop},ofSK l k→k (ofS l)
 | [],_,h=>h
 | (t,v)::l,k,h=>zkb (l:=l) (k:=fun r=>k (.put t (some v) r)) h
theorem zn2:∀{l:List (Nat×AObj)} {k:zah→Prop},ofHK l k→k (ofH l)
 | [],_,h=>h
 | (t,v)::l,k,h=>zn2 (l:=l) (k:=fun r=>k (.put t (some v) r)) h
theorem zcq {β:Type}:∀{l r:List β} {k:List β→Prop},appK l r k→k (l++r)
 | [],_,_,h=>h
 | x::l,r,k,h=>zcq (l:=l) (k:=fun r'=>k (x::r')) h
theorem zai (hE:EnvOK P E)(hmix:P.follows .mixedOrders=true){α:Type}(keep ovr:List Nat)(cn:Nat)(vars:α→List (Nat×AV))(hp:α→List (Nat×AObj))(roots:List (Nat×Root))(μ:α→Nat)(x0:α)
 {body:Code}{K:AX→Nat→St→Prop}{nx:Nat}{S:St}
 (h:zni S.heap ovr fun hl=>zmc S keep fun kl=>(zen (vars x0) fun vl=>appK vl kl fun sl=>appK (hp x0) hl fun hl'=>chkW nx (nx+cn) roots S sl hl') ∧
   ∀ x, zen (vars x) fun vl => appK vl kl fun sl => ofSK sl fun slT => appK (hp x) hl fun hl' => ofHK hl' fun hT => daw3 P E rr body (fun e nx' S'=>match e with
    | .normal=>∃x',(zen (vars x') fun vl=>appK vl kl fun sl=>appK (hp x') hl fun hl'=>chkW nx (nx+cn) roots S' sl hl')∧S'.nsl=S.nsl∧μ x'<μ x
    | e=>K e nx' S') (nx+cn) ⟨slT,S.nsl,hT,0⟩):DW P E rr nx (.loop body) K S:=by
 obtain⟨hl,h⟩:=zgr h;obtain⟨kl,h0,h⟩:=zjz h;have hm:nx≤nx+cn:=Nat.le_add_right _ _;refine DW.loop (fun x=>⟨ofS (vars x++kl),S.nsl,ofH (hp x++hl),0⟩) (nx+cn) μ x0 hm (zoh hm (zcq (zcq (zc1 h0)))) fun x=>?_
 have:=zn2 (zcq (zkb (zcq (zc1 (h x)))));refine(zbq hE hmix body this).mono fun e nx' S' he=>?_
 cases e with
 | normal =>
   obtain⟨x',h1,h2,h3⟩:=he;refine⟨x',?_,h3⟩;have:=zoh (P:=P) (E:=E) (nx:=nx') hm (zcq (zcq (zc1 h1)));rw[h2] at this;exact this
 | _=>exact he
end
end Go.Ago
end
section
namespace Go.Ago
section
variable {P:Program} {E:Env}
theorem zar {nm:Nat}{g:FuncId}{first cap args args':List AV}{H:zah}{Q:AE→Prop}{R:AV→List (Nat×Option AObj)→List Nat→Prop}(hs:mapO (snap .nil 20) (first++args++cap)=some args')(h:DP P E g args' Q)(hq:∀ae,Q ae→∃v,ae = .ret v∧R v [] []) :
 DV P E nm (.fn (.func g) first cap) args H R:=by
 obtain⟨ae,h1,h2⟩:=h;obtain⟨v,rfl,hv⟩:=hq ae h2;exact .inl ⟨v,[],zye hs (PC.mono h1 fun _ h=>h),hv⟩
theorem DV.flat {nm:Nat}{g:FuncId}{first cap args args':List AV}{H:zah}{Q:AE→Prop}{R:AV→List (Nat×Option AObj)→List Nat→Prop}(hs:mapO (snap H 20) (first++args++cap)=some args')(h:DP P E g args' Q)
 (hq:∀ae,Q ae→∃v,ae = .ret v∧v.flat=true∧R v [] ((first++args++cap).flatMap (sids H 20))):DV P E nm (.fn (.func g) first cap) args H R:=by
 obtain⟨ae,h1,h2⟩:=h;obtain⟨v,rfl,hv,hr⟩:=hq ae h2;exact .inl ⟨v,_,CallV.flat hs (PC.mono h1 fun _ h=>h) hv,hr⟩
theorem zkh {nm K0 sz n:Nat}{es:List (List AV)}{g:FuncId}{first cap args args':List AV}{H:zah}{R:AV→List (Nat×Option AObj)→List Nat→Prop}(hs:mapO (snap .nil 20) (first++args++cap)=some args')
 (h:DC P E g args' .nil 0 (fun ae H' _=>ae = .ret (.slc K0 0 n sz)∧H'.get K0=some (.arr sz es)))(hf:(es.all fun e=>e.all zgv)=true)(hn:Nat.ble (nm+2) 16777216=true)(hr:R (.slc nm 0 n sz) [(nm,some (.arr sz es))] []) :
 DV P E nm (.fn (.func g) first cap) args H R:=by
 obtain⟨ae,H',nx',h1,h2⟩:=h;refine .inr ⟨_,_,⟨g,first,cap,args',K0,sz,es,n,rfl,hs,AC.mono h1 fun a h m hh=>?_,fun i e he j x hx=>?_,rfl,rfl,?_⟩,hr⟩
 · obtain⟨rfl,rfl,rfl⟩:=hh;exact h2
 · exact List.all_eq_true.1 (List.all_eq_true.1 hf e (List.mem_of_getElem? he)) x (List.mem_of_getElem? hx)
 · have:=Nat.le_of_ble_eq_true hn;omega
end
structure BL (α:Type) where
 l:List α
 h:l.length<281474976710656
theorem wr64 {n:Int}(h : -9223372036854775808≤n)(h':n<9223372036854775808):wr .i64 n=n:=by
 show IntKind.wrap .i64 n=n;simp only[IntKind.wrap,IntKind.bits,IntKind.signed,ge_iff_le,Bool.true_and,decide_eq_true_eq];split<;>omega
end Go.Ago
end
section
namespace Go.Ago
def zs1 (E:Env)(fn:Func)(R:AE→zah→Nat→Prop):AX→Nat→St→Prop
 | .normal, nx, S | .ret, nx, S => match resA E fn S with
   | some x => x.f3 fun y => match S with
     | ⟨_,_,H,_⟩=>R (.ret y) H nx
   | none=>False
 | .pan v,nx,S=>v.f3 fun y=>match S with
  | ⟨_,_,H,_⟩=>R (.pan y) H nx
 | _,_,_=>False
theorem zze {E:Env}{fn:Func}{R:AE→zah→Nat→Prop}{e:AX}{nx:Nat}{S:St}(h:zs1 E fn R e nx S):zwz E fn R e nx S:=by
 obtain⟨a,b,H,d⟩:=S;cases e with
 | normal =>
   simp only[zs1] at h;simp only[zwz];split at h
   · rename_i e;rw[e];exact AV.f3_s (k:=fun y=>R (.ret y) H nx) h
   · exact h.elim
 | ret =>
   simp only[zs1] at h;simp only[zwz];split at h
   · rename_i e;rw[e];exact AV.f3_s (k:=fun y=>R (.ret y) H nx) h
   · exact h.elim
 | pan v=>exact AV.f3_s (k:=fun y=>R (.pan y) H nx) h
 | exit i=>exact h
 | goto i=>exact h
variable {P:Program} {E:Env} {rr:Bool}
theorem zay {f:FuncId}{fn:Func}{code:Code}{args:List AV}{H:zah}{nx:Nat}{R:AE→zah→Nat→Prop}(hE:EnvOK P E)(hmix:P.follows .mixedOrders=true)(hf:P.funcs[f]? = some fn)(hb:fn.body=some code)(hn:fn.name ≠ "runtime.NumGoroutine")
 (hl:Nat.ble args.length fn.ntmps=true)(hs:Nat.blt fn.ntmps 1000000=true)(h:fL AV.f1 args fun args'=>yam args' 0 .nil fun sl=>fN fn.ntmps fun n=>daw3 P E false code (zs1 E fn R) nx ⟨sl,n,H,0⟩):DC P E f args H nx R:=by
 have h1:=Nat.le_of_ble_eq_true hl;have h2:fn.ntmps<1000000:=by simpa using hs
 refine zwp hE hf hb hn (by omega) ?_
 rw[zs8 hl];exact(zbq hE hmix code (fN_s (zpf (fL_s (fun _ _ h=>AV.f1_s h) h)))).mono fun e _ s he=>zze he
end Go.Ago
end
section
namespace Go.Ago
open Go.RowKit
theorem zmb {S:St}:∀{l:List Nat} {k:List (Nat×AV)→Prop},zmc S l k→∃r,k r∧∀t x,(t,x)∈r→S.slots.get t=some x
 | [],_,h=>⟨[],h,fun _ _ h=>by cases h⟩
 | t :: l, k, h => by
   simp only[zmc] at h;split at h
   · rename_i v hv
     obtain⟨r,hr,hm⟩:=zmb (AV.f3_s h);refine⟨_,hr,fun t' x hx=>?_⟩
     rcases List.mem_cons.1 hx with e|hx
     · cases e;exact hv
     · exact hm t' x hx
   · exact zmb h
def putP:List Tmp→List AV→Tr AV→Tr AV
 | p::ps,x::xs,t=>putP ps xs (.put p (some x) t)
 | _,_,t=>t
section
variable {P:Program} {E:Env} {c:Ctx} {w:World}
theorem zxo (l:List (Tmp×Value)):∀(tm:Array Value),(l.foldl (fun t (p,v)=>t.setIfInBounds p v) tm).size=tm.size:=by
 induction l with
 | nil=>intro tm;rfl
 | cons p l ih=>intro tm;rw[List.foldl_cons,ih];simp
theorem zu4:∀{ps:List Tmp} {xs:List AV} {vs:List Value} {T:Tr AV} {tm:Array Value},RelL c w xs vs→(∀p∈ps,p<tm.size)→(∀t x,T.get t=some x→∃v,tm[t]? = some v∧Rel c w x v) →
 ∀t x,(putP ps xs T).get t=some x→∃v,((ps.zip vs).foldl (fun t (p,v)=>t.setIfInBounds p v) tm)[t]? = some v∧Rel c w x v
 | [], xs, vs, T, tm, _, _, h, t, x, e => by
   have:putP [] xs T=T:=by cases xs<;>rfl
   rw[this] at e
   simpa using h t x e
 | p :: ps, [], vs, T, tm, hr, _, h, t, x, e => by
   obtain rfl:=hr.inv_nil
   simpa using h t x e
 | p :: ps, y :: xs, vs, T, tm, hr, hp, h, t, x, e => by
   obtain⟨v,us,rfl,hv,hus⟩:=hr.inv_cons;rw[List.zip_cons_cons,List.foldl_cons];refine zu4 (ps:=ps) (xs:=xs) (vs:=us) (T := .put p (some y) T) hus (fun q hq=>by simpa using hp q (List.mem_cons_of_mem _ hq)) (fun t' x' e'=>?_) t x e
   rw[Tr.get] at e';cases hb:Nat.beq t' p with
   | true =>
     rw[hb] at e';simp only[cond_true,Option.some.injEq] at e';have:=Nat.eq_of_beq_eq_true hb;refine⟨v,?_,e' ▸ hv⟩;rw[Array.getElem?_setIfInBounds,this];simp[hp p List.mem_cons_self]
   | false =>
     rw[hb] at e';obtain⟨u,h1,h2⟩:=h t' x' e';refine⟨u,?_,h2⟩;have hne:p≠t':=by rintro rfl;simp at hb
     rw[Array.getElem?_setIfInBounds];simp[hne,h1]
def YEnd (k:Nat)(R:AE→zah→Nat→Prop)(e:AX)(nx:Nat)(S:St):Prop:=
 ∃st pend sl n code,S.heap.get k=some (.lp st pend sl n code)∧match e with
  | .normal=>R (.ret (.bool true)) (S.heap.set 24 k (some (.lp .ready none sl n code))) nx
  | .ret=>R (.ret (.bool false)) (S.heap.set 24 k (some (.lp .done (some .ret) sl n code))) nx
  | .exit i=>R (.ret (.bool false)) (S.heap.set 24 k (some (.lp .done (some (.exit i)) sl n code))) nx
  | .goto l=>R (.ret (.bool false)) (S.heap.set 24 k (some (.lp .done (some (.goto l)) sl n code))) nx
  | .pan _=>False
theorem yft {k nx:Nat}{args:List AV}{H:zah}{R:AE→zah→Nat→Prop}{sl:List (Nat×AV)}{nsl:Nat}{g:Operand}{ps:Array Tmp}{as bd:Code}(hk:H.get k=some (.lp .ready none sl nsl (.rangeFunc g ps as bd)))
 (hl:ps.size=args.length)(hp:∀p∈ps.toList,p<nsl)(hk24:k+1<2 ^ 24)
 (h:DW P E true nx as (fun e nx1 S1=>e = .normal∧∃sl1 n1 code1,S1.heap.get k=some (.lp .ready none sl1 n1 code1)∧DW P E true nx1 bd (YEnd k R) { S1 with heap:=S1.heap.set 24 k (some (.lp .busy none sl1 n1 code1)) })
   ⟨putP ps.toList args (ofS sl),nsl,H,0⟩):DY P E k args H nx R:=by
 obtain⟨ax,nx1,S1,h1,rfl,sl1,n1,code1,hk1,h2⟩:=h;obtain⟨ax2,nx2,S2,h3,st2,pend2,sl2,n2,code2,hk2,h4⟩:=h2
 
 have main:∀(jump:Option Code) (ae:AE) (o:AObj),ae = .ret (.bool jump.isNone)→o = .lp (if jump.isNone then .ready else .done) jump sl2 n2 code2 →
  (∀(e:Exit) (c2:Ctx) (w2:World),XRel c2 w2 ax2 e→∀(l:Nat) (R':Ending→World→Prop) (a':Act) (w':World),(∃v w'',(Instr.endRound l jump).run P w' = .ok v w''∧R' (.returned v) w'')→roundPost P l R' e a' w') →
  R ae (S2.heap.set 24 k (some o)) nx2→DY P E k args H nx R:=by
  intro jump ae o hae ho hpost hR;refine⟨ae,_,nx2,?_,hR⟩;intro c w vs hw hf hr;obtain⟨B,hB,hBi,rec,g',r1,r2,r3,r4,r5,r6⟩:=hw.obj k _ hk
  injection r5 with e1 e2 e3 e4
  subst e2;subst e3;subst e4;refine⟨B,rec,hB,r1,by rw[← hr.1,hl],?_⟩
  have hkx:k<nx:=by
   rcases Nat.lt_or_ge k nx with h|h
   · exact h
   · rw[hf k h] at hB;cases hB
  have hfold:(rec.params.zip vs.toArray).foldl (fun t (p,v)=>t.setIfInBounds p v) rec.tmps=(rec.params.toList.zip vs).foldl (fun t (p,v)=>t.setIfInBounds p v) rec.tmps:=by
   rw[← Array.foldl_toList];simp
  rw[hfold];have hs0:Sim P E c ((⟨putP rec.params.toList args (ofS sl),nsl,H,0⟩:St).at_ nx) { tmps:=(rec.params.toList.zip vs).foldl (fun t (p,v)=>t.setIfInBounds p v) rec.tmps,defers:=[] } w:=by
   refine⟨by rw[zxo];exact r4,?_,trivial,hw,hf⟩
   exact zu4 hr (fun p hpm=>by rw[r4];exact hp p hpm) (fun t x e=>r6 t x (zjw e))
  refine roundIn_of_wpIn (F:=Fence.wide) trivial (wpIn_mono (h1 (some B.b) (fun h=>by cases h) nx (Nat.le_refl _) c _ w hs0) ?_)
  rintro e a1 w1 ⟨c1,S1',ax1,x1,x2,x3,x4,x5,x6⟩
  subst x5;subst x6;cases e<;>first|exact x4.elim|skip
  have hB1:c1.f k=some B:=(x1.f k hkx).trans hB;obtain⟨B',hB',hBi',rec1,g1,s1,s2,s3,s4,s5,s6⟩:=x3.wrel.obj k _ hk1;rw[hB1] at hB';cases hB';refine⟨_,run_beginRound s1 s2,?_⟩;obtain⟨y1,y2⟩:=x3.wrel.setO hk1 hB1 hk24 (.loop { rec1 with state := .busy }) (.lp .busy none sl1 n1 code1) (fun w' hh hrel _=>⟨_,g1,hh,rfl,s3,s4,s5,fun t x hm=>by obtain⟨v,v1,v2⟩:=s6 t x hm;exact⟨v,v1,hrel v2⟩⟩)
  have hs1:Sim P E c1 (({ S1 with heap:=S1.heap.set 24 k (some (.lp .busy none sl1 n1 code1)) }:St).at_ nx1) a1 (w1.putObj B.b (.loop { rec1 with state := .busy })):=
   ⟨x3.size,fun t x e=>by obtain⟨v,v1,v2⟩:=x3.slots t x e;exact⟨v,v1,y1.rel x3.wrel v2⟩,y1.defs x3.wrel x3.defers,y2,x3.fresh⟩
  refine wpIn_mono (h3 (some B.b) (fun h=>by cases h) nx (by exact x2) c1 a1 _ hs1) ?_
  rintro e a2 w2 ⟨c2,S2',ax',z1,z2,z3,z4,z5,z6⟩
  subst z5;subst z6;have hB2:c2.f k=some B:=(z1.f k hkx).trans hB1;obtain⟨B',hB',hBi2,rec2,g2,t1,t2,t3,t4,t5,t6⟩:=z3.wrel.obj k _ hk2;rw[hB2] at hB';cases hB';refine hpost e c2 w2 z4 B.b _ a2 w2 ⟨_,_,run_endRound jump t1,?_⟩;obtain ⟨u1, u2⟩ := z3.wrel.setO hk2 hB2 hk24 (.loop { rec2 with state := if jump.isNone then .ready else .done, pending := jump }) o (fun w' hh hrel _=>by
   rw[ho];exact⟨_,g2,hh,rfl,rfl,t4,t5,fun t x hm=>by obtain⟨v,v1,v2⟩:=t6 t x hm;exact⟨v,v1,hrel v2⟩⟩)
  refine⟨c2,_,nx2,ae,((x1.toExtM.trans (y1.toM fun _ _=>rfl)).trans z1.toExtM).trans (u1.toM fun _ _=>rfl),u2,?_,z3.fresh,?_,rfl,rfl,rfl⟩
  · exact Nat.le_trans x2 z2
  · rw[hae];exact .bool _
 cases ax2 with
 | normal=>exact main none _ _ rfl rfl (fun e c2 w2 hx l R' a' w' h=>by cases e<;>first|exact hx.elim|exact h) h4
 | ret=>exact main (some .ret) _ _ rfl rfl (fun e c2 w2 hx l R' a' w' h=>by cases e<;>first|exact hx.elim|exact h) h4
 | exit i=>exact main (some (.exit i)) _ _ rfl rfl (fun e c2 w2 hx l R' a' w' h=>by cases e<;>first|exact hx.elim|(obtain rfl:i=_:=hx;exact h)) h4
 | goto i=>exact main (some (.goto i)) _ _ rfl rfl (fun e c2 w2 hx l R' a' w' h=>by cases e<;>first|exact hx.elim|(obtain rfl:i=_:=hx;exact h)) h4
 | pan v=>exact h4.elim
def ypk (P:Program)(pend:Option Code)(Q:Exit→Act→World→Prop)(a:Act)(w:World):Prop:=
 match pend with
 | none=>Q .normal a w
 | some c=>c.wpIn (FR none) 0 P Q a w
def REnd (nx:Nat)(sl:Tr AV)(n:Nat)(K:AX→Nat→St→Prop)(ae:AE)(H:zah)(nx':Nat):Prop:=
 match ae with
 | .ret _ => ∃ st pend s2 n2 code, H.get nx = some (.lp st pend s2 n2 code) ∧ st ≠ .busy ∧ match pend with
   | none=>K .normal nx' ⟨sl,n,.put nx none H,0⟩
   | some .ret=>K .ret nx' ⟨sl,n,.put nx none H,0⟩
   | some (.exit i)=>K (.exit i) nx' ⟨sl,n,.put nx none H,0⟩
   | some (.goto l)=>K (.goto l) nx' ⟨sl,n,.put nx none H,0⟩
   | _=>False
 | .pan _=>False
theorem zt5 {g:Operand}{ps:Array Tmp}{as bd:Code}{K:AX→Nat→St→Prop}{nx:Nat}{S:St}{gf:FuncId}{cap:List AV}{kl:List (Nat×AV)}(hg:S.ev E g = .fn (.func gf) [] cap)(hn24:nx+1<2 ^ 24)(hkl:∀t x,(t,x)∈kl→S.slots.get t=some x)
 (h:DC P E gf (.mapp nx::cap) (S.heap.set 24 nx (some (.lp .ready none kl S.nsl (.rangeFunc g ps as bd)))) (nx+1) (REnd nx S.slots S.nsl K)):DW P E false nx (.rangeFunc g ps as bd) K S:=by
 obtain⟨ae,H',nx',hac,hR⟩:=h;cases ae with
 | pan v=>exact hR.elim
 | ret v0=>
 obtain⟨st,pend,s2,n2,code,hk,hst,hK⟩:=hR;have main:∀(ax:AX),(∀(c':Ctx) (w':World) (a':Act) (Q:Exit→Act→World→Prop),(∀e,XRel c' w' ax e→Q e a' w')→ypk P pend Q a' w')→K ax nx' ⟨S.slots,S.nsl,.put nx none H',0⟩→DW P E false nx (.rangeFunc g ps as bd) K S:=by
  intro ax hax hK;refine⟨ax,nx',⟨S.slots,S.nsl,.put nx none H',0⟩,?_,hK⟩;intro r hrr m hm c a w hs;obtain rfl:=hrr rfl;have hev:=hs.ev g;rw[show(S.at_ nx).ev E g = .fn (.func gf) [] cap from hg] at hev
  generalize hgv:a.eval g=gv at hev
  cases hev with
  | @fn _ _ _ _ _ vs us h1 h2 hr1 hr2=>
  have hvs:vs=[]:=List.eq_nil_of_length_eq_zero h1.symm;subst hvs;refine wpIn_rangeFunc ?_;intro fn _
  let D:=w.heap.size
  let rec0:Loop:={ state := .ready,pending:=none,fn,tmps:=a.tmps,params:=ps,assign:=as,body:=bd,defers:=D }
  
  have hw0:WRel E.glob c (w.alloc (.deferred (some []))) S.heap∧∀{x v},Rel c w x v→Rel c (w.alloc (.deferred (some []))) x v:=
   hs.wrel.same (I:=c.imm) (w':=w.alloc (.deferred (some []))) (fun _ h=>h) (fun b hb=>by have:=hs.wrel.imm_lt b hb;simp;omega) (fun _ _ h=>h) (by simp) (fun b hb=>Below.heap_alloc w _ b hb)
  obtain⟨hw0,hrel0⟩:=hw0;have hnx:c.f nx=none:=hs.fresh nx (Nat.le_refl _);obtain ⟨e1, e2⟩ := hw0.allocO (k := nx) hnx hn24 (.loop rec0) (.lp .ready none kl S.nsl (.rangeFunc g ps as bd)) (sz := 0) (n := 0) (fun c' w' hh hrel _=>⟨rec0,g,hh,rfl,rfl,hs.size,rfl,fun t x hm=>by
   obtain⟨v,v1,v2⟩:=hs.slots t x (hkl t x hm);exact⟨v,v1,hrel (hrel0 v2)⟩⟩)
  have hcb:∀j,nx+1≤j→(c.bind nx ⟨(w.alloc (.deferred (some []))).heap.size,0,0,0⟩).f j=none:=fun j hj=>by
   show(if j=nx then _ else c.f j)=none
   rw[if_neg (by omega)];exact hs.fresh j (Nat.le_of_succ_le hj)
  have hsz1:(w.alloc (.deferred (some []))).heap.size=w.heap.size+1:=World.size_alloc w _;have hbk:(c.bind nx ⟨(w.alloc (.deferred (some []))).heap.size,0,0,0⟩).f nx=some ⟨w.heap.size+1,0,0,0⟩:=by rw[hsz1];simp[Ctx.bind]
  have hus:RelL (c.bind nx ⟨(w.alloc (.deferred (some []))).heap.size,0,0,0⟩) ((w.alloc (.deferred (some []))).alloc (.loop rec0)) cap us:=
   ⟨h2,fun i x v e e'=>e1.rel hw0 (hrel0 (hr2 i x v e e'))⟩
  have hcalls:=hac.2 _ _ (.func (.yield (w.heap.size+1)) #[] #[]::us) e2 hcb (.cons (.mapp hbk) hus);have hD:((w.alloc (.deferred (some []))).alloc (.loop rec0)).heap[w.heap.size]? = some (.deferred (some [])):=(Below.heap_alloc _ _ _ (by simp)).trans (World.alloc_heap_new w _)
  have hm0:m≤nx:=hm;obtain⟨fng,hfg,hbg,hng⟩:=hac.1;refine⟨w.heap.size+1,[{ target := .collected w.heap.size,args:=#[] }],(w.alloc (.deferred (some []))).alloc (.loop rec0),{ target := .fn (.func gf) us.toArray,args:=#[.func (.yield (w.heap.size+1)) #[] #[]] },(w.alloc (.deferred (some []))).alloc (.loop rec0),gf,
   #[.func (.yield (w.heap.size+1)) #[] #[]]++us.toArray,(w.alloc (.deferred (some []))).alloc (.loop rec0),run_enterLoop_outer _ _ _ _ _,?_,fun _ _=>trivial,?_,(fun h=>by cases h),?_⟩
  · simp only [resolve, hgv]
    simp[go_sem]
  · simp[invoke,go_sem,zdl hac.1]
  · refine callsIn_FR.2 ?_
    have harr:#[Value.func (.yield (w.heap.size+1)) #[] #[]]++us.toArray=(Value.func (.yield (w.heap.size+1)) #[] #[]::us).toArray:=by simp
    rw[harr];refine hcalls.mono ?_
    rintro e w3 ⟨c3,H3,nx3,ae3,hext,hw3,hn3,hfr3,her,rfl,rfl,rfl⟩
    cases e<;>first|exact her.elim|skip
    rename_i v3;have hB3:c3.f nx=some ⟨w.heap.size+1,0,0,0⟩:=(hext.f nx (Nat.lt_succ_self _)).trans hbk;obtain⟨B',hB',hBi',rec3,g3,t1,t2,t3,t4,t5,t6⟩:=hw3.obj nx _ hk;rw[hB3] at hB';cases hB';have hst3:rec3.state≠.busy:=by rw[t2];exact hst
    refine⟨rec3.pending,_,run_endLoop t1 hst3,?_⟩;obtain⟨u1,u2⟩:=hw3.setO hk hB3 hn24 (.loop { rec3 with state := .exhausted }) (.lp .exhausted pend s2 n2 code) (fun w' hh hrel _=>⟨_,g3,hh,rfl,t3,t4,t5,fun t x hm=>by obtain⟨v,v1,v2⟩:=t6 t x hm;exact⟨v,v1,hrel v2⟩⟩)
    obtain⟨d1,d2⟩:=u2.drop nx hn24;have hcg:∀j,(Tr.put nx none H3).get j=((H3.set 24 nx (some (.lp .exhausted pend s2 n2 code))).set 24 nx none).get j:=fun j=>by
     rw[Tr.get_set 24 nx _ _ j hn24,Tr.get_set 24 nx _ _ j hn24];rw[show Tr.put nx none H3=H3.set 24 nx none from rfl,Tr.get_set 24 nx _ _ j hn24]
     by_cases hj:j=nx
     · rw[if_pos hj,if_pos hj]
     · rw[if_neg hj,if_neg hj,if_neg hj]
    have hwf:=d2.congr (H' := .put nx none H3) hcg;have ext0:ExtM m c w S.heap c (w.alloc (.deferred (some []))) S.heap:=
     ⟨fun _ _=>rfl,fun _ h=>h,rfl,rfl,rfl,by simp,fun b hb _=>Below.heap_alloc w _ b hb,fun b hb => .inl hb,fun b hb => .inl hb⟩
    have ext1:=ext0.trans (e1.toM (m:=m) fun k hk'=>by show(if k=nx then _ else c.f k)=c.f k;rw[if_neg (by omega)])
    have ext2:=ext1.trans (hext.less (by omega:m≤nx+1))
    have ext3:=ext2.trans (u1.toM (m:=m) fun _ _=>rfl)
    have ext4:=(ext3.trans (d1.toM (m:=m) fun _ _=>rfl)).congr (K' := .put nx none H3) hcg
    have hdef1:DefOK (c.bind nx ⟨(w.alloc (.deferred (some []))).heap.size,0,0,0⟩) ((w.alloc (.deferred (some []))).alloc (.loop rec0)) ((w.alloc (.deferred (some []))).alloc (.loop rec0)).heap.size ({ target := .collected w.heap.size,args:=#[] }::a.defers):=
     ⟨w.heap.size,rfl,by rw[World.size_alloc,World.size_alloc];omega,fun hi=>Nat.lt_irrefl _ (hs.wrel.imm_lt _ hi),hD,hs.defers.mono (Nat.le_refl _) fun D' hlt hi hD'=>⟨hi,by
      rw[Below.heap_alloc _ _ _ (by simp;omega),Below.heap_alloc w _ _ hlt];exact hD'⟩⟩
    have hdef2:=hext.defs e2 hdef1;have hdef3:=u1.defs hw3 hdef2;have hrelAll:∀{x v},Rel c w x v→Rel c3 (w3.putObj (w.heap.size+1) (.loop { rec3 with state := .exhausted })) x v:=fun {x v} hr=>by
     have hr1:=e1.rel hw0 (hrel0 hr);have hle3:(c.bind nx ⟨(w.alloc (.deferred (some []))).heap.size,0,0,0⟩).le c3:=⟨fun k p e=>by
      by_cases hk':k<nx+1
      · rw[hext.f k hk'];exact e
      · (rw[hcb k (by omega)] at e;cases e),hext.imm⟩
     have hr2':Rel c3 w3 x v:=hr1.mono hle3 (fun b hb=>hext.other b (e2.imm_lt b hb) (e2.not_own hb))
     exact u1.rel hw3 hr2'
    have hsimF:Sim P E c3 ((⟨S.slots,S.nsl,.put nx none H3,0⟩:St).at_ nx3) { a with defers:=[{ target := .collected w.heap.size,args:=#[] }]++a.defers } (w3.putObj (w.heap.size+1) (.loop { rec3 with state := .exhausted })):=
     ⟨hs.size,fun t x e=>by obtain⟨v,v1,v2⟩:=hs.slots t x e;exact⟨v,v1,hrelAll v2⟩,hdef3,hwf,hfr3⟩
    have hQ:∀e,XRel c3 (w3.putObj (w.heap.size+1) (.loop { rec3 with state := .exhausted })) ax e→QS P E m c a w (S.at_ nx) (fun a s=>a=ax∧s=(⟨S.slots,S.nsl,.put nx none H3,0⟩:St).at_ nx3) e { a with defers:=[{ target := .collected w.heap.size,args:=#[] }]++a.defers } (w3.putObj (w.heap.size+1) (.loop { rec3 with state := .exhausted })):=fun e he=>
     ⟨c3,(⟨S.slots,S.nsl,.put nx none H3,0⟩:St).at_ nx3,ax,⟨ext4,[{ target := .collected w.heap.size,args:=#[] }],rfl,fun d hd=>⟨w.heap.size,by simpa using hd,Nat.le_refl _⟩⟩,(show nx≤nx3 from Nat.le_of_succ_le hn3),hsimF,he,rfl,rfl⟩
    have hp:=hax c3 _ _ _ hQ;rw[← t3] at hp;unfold ypk at hp;exact hp
 cases pend with
 | none=>exact main .normal (fun c' w' a' Q h=>h .normal trivial) hK
 | some cd =>
   cases cd with
   | ret=>exact main .ret (fun c' w' a' Q h=>wpIn_ret (h .ret trivial)) hK
   | exit i=>exact main (.exit i) (fun c' w' a' Q h=>wpIn_exit (h (.exit i) rfl)) hK
   | goto l=>exact main (.goto l) (fun c' w' a' Q h=>wpIn_goto (h (.goto l) rfl)) hK
   | _=>exact hK.elim
def yd1:List Tmp→List AV→Tr AV→(Tr AV→Prop)→Prop
 | p::ps,x::xs,t,k=>yd1 ps xs (.put p (some x) t) k
 | _,_,t,k=>k t
theorem zzi:∀{ps:List Tmp} {xs:List AV} {t:Tr AV} {k:Tr AV→Prop},yd1 ps xs t k→k (putP ps xs t)
 | [], xs, t, k, h => by have : putP [] xs t = t := by cases xs <;> rfl
                         rw[this];cases xs<;>exact h
 | _::_,[],_,_,h=>h
 | p::ps,x::xs,t,k,h=>zzi (ps:=ps) (xs:=xs) (t := .put p (some x) t) (k:=k) h
def yg9 (k:Nat)(R:AE→zah→Nat→Prop)(e:AX)(nx:Nat)(S:St):Prop:=
 match S with
 | ⟨_, _, H, _⟩ => gt3 k (fun o => match o with
   | .lp _ _ sl n cd => match e with
     | .normal=>R (.ret (.bool true)) (.put k (some (.lp .ready none sl n cd)) H) nx
     | .ret=>R (.ret (.bool false)) (.put k (some (.lp .done (some .ret) sl n cd)) H) nx
     | .exit i=>R (.ret (.bool false)) (.put k (some (.lp .done (some (.exit i)) sl n cd)) H) nx
     | .goto l=>R (.ret (.bool false)) (.put k (some (.lp .done (some (.goto l)) sl n cd)) H) nx
     | .pan _=>False
   | _=>False) H
theorem yg8 {k:Nat}{R:AE→zah→Nat→Prop}{e:AX}{nx:Nat}{S:St}(h:yg9 k R e nx S):YEnd k R e nx S:=by
 obtain⟨sl,n,H,x⟩:=S;simp only[yg9] at h;obtain⟨o,ho,h⟩:=zmh h;cases o with
 | lp st pend s2 n2 cd=>exact⟨st,pend,s2,n2,cd,ho,by cases e<;>exact h⟩
 | _=>exact h.elim
def yg7 (P:Program)(E:Env)(k:Nat)(R:AE→zah→Nat→Prop)(bd:Code)(e:AX)(nx:Nat)(S:St):Prop:=
 match e with
 | .normal => match S with
   | ⟨sl, n, H, _⟩ => gt3 k (fun o => match o with
     | .lp .ready none s1 n1 cd=>daw3 P E true bd (yg9 k R) nx ⟨sl,n,.put k (some (.lp .busy none s1 n1 cd)) H,0⟩
     | _=>False) H
 | _=>False
def yld3 (P:Program)(E:Env)(k:Nat)(args:List AV)(H:zah)(nx:Nat)(R:AE→zah→Nat→Prop):Prop:=
 gt3 k (fun o=>match o with
  | .lp .ready none sl nsl (.rangeFunc _ ps as bd)=>cond (Nat.beq ps.size args.length && ps.toList.all (fun p=>Nat.blt p nsl) && Nat.ble (k+2) 16777216) (ofSK sl fun T=>yd1 ps.toList args T fun T'=>daw3 P E true as (yg7 P E k R bd) nx ⟨T',nsl,H,0⟩) False
  | _=>False) H
theorem zj6 (hE:EnvOK P E)(hmix:P.follows .mixedOrders=true){k nx:Nat}{args:List AV}{H:zah}{R:AE→zah→Nat→Prop}(h:yld3 P E k args H nx R):DY P E k args H nx R:=by
 unfold yld3 at h;obtain⟨o,ho,h⟩:=zmh h;split at h<;>first|exact h.elim|skip
 rename_i sl nsl g ps as bd;cases hc:Nat.beq ps.size args.length && ps.toList.all (fun p=>Nat.blt p nsl) && Nat.ble (k+2) 16777216 with
 | false=>rw[hc] at h;exact h.elim
 | true =>
   rw[hc] at h;simp only[Bool.and_eq_true,List.all_eq_true] at hc;have h:=zzi (zkb (k:=fun T=>yd1 ps.toList args T fun T'=>daw3 P E true as (yg7 P E k R bd) nx ⟨T',nsl,H,0⟩) h)
   refine yft ho (Nat.eq_of_beq_eq_true hc.1.1) (fun p hp=>by simpa using hc.1.2 p hp) (by have:=Nat.le_of_ble_eq_true hc.2;omega) ((zbq hE hmix as h).mono fun e nx1 S1 he=>?_)
   cases e<;>first|exact he.elim|skip
   obtain⟨sl1,n1,H1,x1⟩:=S1;simp only[yg7] at he;obtain⟨o1,ho1,he⟩:=zmh he;split at he<;>first|exact he.elim|skip
   rename_i s2 n2 cd;exact⟨rfl,s2,n2,cd,ho1,(zbq hE hmix bd he).mono fun e nx2 S2 he2=>yg8 he2⟩
def yia (nx:Nat)(sl:Tr AV)(n:Nat)(K:AX→Nat→St→Prop)(ae:AE)(H:zah)(nx':Nat):Prop:=
 match ae with
 | .ret _ => gt3 nx (fun o => match o with
   | .lp st pend _ _ _ => match st with
     | .busy=>False
     | _ => match pend with
       | none=>K .normal nx' ⟨sl,n,.put nx none H,0⟩
       | some .ret=>K .ret nx' ⟨sl,n,.put nx none H,0⟩
       | some (.exit i)=>K (.exit i) nx' ⟨sl,n,.put nx none H,0⟩
       | some (.goto l)=>K (.goto l) nx' ⟨sl,n,.put nx none H,0⟩
       | _=>False
   | _=>False) H
 | .pan _=>False
theorem yh9 {nx:Nat}{sl:Tr AV}{n:Nat}{K:AX→Nat→St→Prop}{ae:AE}{H:zah}{nx':Nat}(h:yia nx sl n K ae H nx'):REnd nx sl n K ae H nx':=by
 cases ae with
 | pan v=>exact h
 | ret v =>
   simp only[yia] at h;obtain⟨o,ho,h⟩:=zmh h;cases o with
   | lp st pend s2 n2 cd =>
     refine⟨st,pend,s2,n2,cd,ho,?_,?_⟩
     · rintro rfl;exact h
     · cases st<;>first|exact h.elim|exact h
   | _=>exact h.elim
theorem DW.range (keep:List Nat){g:Operand}{ps:Array Tmp}{as bd:Code}{K:AX→Nat→St→Prop}{nx:Nat}{S:St}
 (h:match S with
   | ⟨sl, n, H, _⟩ => match St.ev E ⟨sl, n, H, 0⟩ g with
     | .fn (.func gf) [] cap=>cond (Nat.ble (nx+2) 16777216) (zmc ⟨sl,n,H,0⟩ keep fun kl=>fL AV.f1 (.mapp nx::cap) fun args=>DC P E gf args (.put nx (some (.lp .ready none kl n (.rangeFunc g ps as bd))) H) (nx+1) (yia nx sl n K)) False
     | _=>False):DW P E false nx (.rangeFunc g ps as bd) K S:=by
 obtain⟨sl,n,H,x⟩:=S;dsimp only at h;split at h
 · rename_i gf cap hg
   cases hc:Nat.ble (nx+2) 16777216 with
   | false=>rw[hc] at h;exact h.elim
   | true =>
     rw[hc] at h;obtain⟨kl,h,hkl⟩:=zmb h;have h:=fL_s (fun _ _ h=>AV.f1_s h) h
     exact zt5 (S:=⟨sl,n,H,x⟩) hg (by have:=Nat.le_of_ble_eq_true hc;omega) hkl (DC.mono h fun ae H nx' hr=>yh9 hr)
 · exact h.elim
end
end Go.Ago
end
