/-
  Part A18: lemmas, each with its own conditions.
-/
import Derived.RangeFuncOwn
import Derived.ScopeJumps
import Derived.Test.YthaolifcglpkdaaGreatDoorA14
set_option maxRecDepth 100000
set_option maxHeartbeats 0
set_option linter.all false
section
namespace Go.Ago
open List Nat
open Go.RowKit
theorem B8 {S:St}:∀{l:List Nat} {k:List (Nat×AV)->Prop},kL S l k->∃r,k r∧∀t x,(t,x)∈r->S.bo.get t=some x
 | [],_,h=>⟨[],h,fun _ _ h=>by cases h⟩
 | t :: l, k, h => by
   simp[kL] at h;split at h
   . obtain ⟨r, b, c⟩ := B8 (AV.kG h)
     grind
   exact B8 h
def sG:List Tmp->List AV->Tr AV->Tr AV
 | p::b,x::c,t=>sG b c (.put p (some x) t)
 | _,_,t=>t
section
variable {P:Program} {E:Env} {c:Ctx} {w:World}
theorem RQ (l:List (Tmp×Value)):∀(a:Array Value),(l.foldl (fun t (p,v)=>t.setIfInBounds p v) a).size=a.size:=by
 induction l<;>grind
theorem JH:∀{ps:List Tmp} {xs:List AV} {vs:List Value} {T:Tr AV} {b:Array Value},aQ c w xs vs->(∀p∈ps,p<b.size)->(∀t x,T.get t=some x->∃v,b[t]? = some v∧Rel c w x v)->
 ∀t x,(sG ps xs T).get t=some x->∃v,((ps.zip vs).foldl (fun t (p,v)=>t.setIfInBounds p v) b)[t]? = some v∧Rel c w x v
 | [], xs, vs, T, b, _, _, h, t, x, e => by
   have:sG [] xs T=T:=by cases xs<;>rfl
   simp_all
 | p :: ps, [], vs, T, b, d, _, h, t, x, e => by
   obtain rfl:=d.fY
   simpa using h t x e
 | p :: ps, y :: xs, vs, T, b, d, z, h, t, x, e => by
   obtain⟨v,m,rfl,r,f⟩:=d.dT;refine JH (ps:=ps) (xs:=xs) (vs:=m) (T := .put p (some y) T) f (fun q o=>by grind) (fun i l g=>?_) t x e
   rw[Tr.get] at g;cases j:beq i p with
   | true =>
     simp_all
   | false =>
     rw[j] at g;obtain⟨u,s,n⟩:=h i l g;refine⟨u,?_,n⟩;have k:p≠i:=by rintro rfl;simp at j
     grind
def EA (k:Nat)(R:AE->ai->Nat->Prop)(e:AX)(nx:Nat)(S:St):Prop:=
 ∃f b d n a,S.heap.get k=some (.lp f b d n a)∧match e with
  | .normal=>R (.ret (.bool true)) (S.heap.set 24 k (some (.lp .ready none d n a))) nx
  | .ret=>R (.ret (.bool false)) (S.heap.set 24 k (some (.lp .done (some .ret) d n a))) nx
  | .exit i=>R (.ret (.bool false)) (S.heap.set 24 k (some (.lp .done (some (.exit i)) d n a))) nx
  | .goto l=>R (.ret (.bool false)) (S.heap.set 24 k (some (.lp .done (some (.goto l)) d n a))) nx
  | .aR _=>False
theorem DY.nD {k nx:Nat}{args:List AV}{H:ai}{R:AE->ai->Nat->Prop}{sl:List (Nat×AV)}{u:Nat}{g:Operand}{ps:Array Tmp}{aS bd:Code}(hk:H.get k=some (.lp .ready none sl u (.rangeFunc g ps aS bd)))
 (hl:ps.size=args.length)(hp:∀p∈ps.toList,p<u)(A:k+1<2 ^ 24)
 (h:DW P E true nx aS (fun e J O=>e = .normal∧∃q U d,O.heap.get k=some (.lp .ready none q U d)∧DW P E true J bd (EA k R) { O with heap:=O.heap.set 24 k (some (.lp .busy none q U d)) })
   ⟨sG ps.toList args (gF sl),u,H,0⟩):DY P E k args H nx R:=by
 obtain⟨ax,J,O,h1,rfl,q,U,d,X,h2⟩:=h;obtain⟨T,L,S2,h3,st2,pend2,sl2,n2,M,Y,h4⟩:=h2
 
 have m:∀(a:Option Code) (V:AE) (o:an),V = .ret (.bool a.isNone)->o = .lp (if a.isNone then .ready else .done) a sl2 n2 M->
  (∀(e:Exit) (r:Ctx) (y:World),vF r y T e->∀(l:Nat) (N:Ending->World->Prop) (Z:Act) (C:World),(∃v S,(Instr.endRound l a).run P C = .ok v S∧N (.returned v) S)->roundPost P l N e Z C)->
  R V (S2.heap.set 24 k (some o)) L->DY P E k args H nx R:=by
  intro a V o hae ho I hR;refine⟨V,_,L,?_,hR⟩;intro c w vs hw hf hr;obtain⟨B,hB,hBi,j,g',r1,r2,r3,r4,r5,r6⟩:=hw.obj k _ hk
  injection r5 with e1 e2 e3 e4
  subst e2;subst e3;subst e4;refine⟨B,j,hB,r1,by rw[<-hr.1,hl],?_⟩
  have Q:k<nx:=by
   rcases Nat.lt_or_ge k nx with h|h
   . exact h
   . grind
  have G:(j.params.zip vs.toArray).foldl (fun t (p,v)=>t.setIfInBounds p v) j.tmps=(j.params.toList.zip vs).foldl (fun t (p,v)=>t.setIfInBounds p v) j.tmps:=by
   rw[<-Array.foldl_toList];simp
  rw[G];have hs0:c_ P E c ((⟨sG j.params.toList args (gF sl),u,H,0⟩:St).at_ nx) { tmps:=(j.params.toList.zip vs).foldl (fun t (p,v)=>t.setIfInBounds p v) j.tmps,defers:=[] } w:=by
   refine⟨by rw[RQ];exact r4,?_,trivial,hw,hf⟩
   exact JH hr (fun p hpm=>by grind) (fun t x e=>r6 t x (oK e))
  refine roundIn_of_wpIn (F:=Fence.wide) trivial (wpIn_mono (h1 (some B.b) (fun h=>by cases h) nx (Nat.le_refl _) c _ w hs0) ?_)
  rintro e a1 w1 ⟨c1,S1',ax1,x1,x2,z,x4,x5,x6⟩
  subst x5;subst x6;cases e<;>first|exact x4.elim|skip
  have K:c1.f k=some B:=(x1.f k Q).trans hB;obtain⟨B',n,hBi',D,g1,s1,s2,s3,s4,s5,s6⟩:=z.bu.obj k _ X;rw[K] at n;cases n;refine⟨_,run_beginRound s1 s2,?_⟩;obtain⟨y1,y2⟩:=z.bu.bP X K A (.loop { D with state := .busy }) (.lp .busy none q U d) (fun C hh W _=>⟨_,g1,hh,rfl,s3,s4,s5,fun t x hm=>by grind⟩)
  have hs1:c_ P E c1 (({ O with heap:=O.heap.set 24 k (some (.lp .busy none q U d)) }:St).at_ J) a1 (w1.putObj B.b (.loop { D with state := .busy })):=
   ⟨z.size,fun t x e=>by obtain⟨v,v1,v2⟩:=z.bo t x e;exact⟨v,v1,y1.rel z.bu v2⟩,y1.defs z.bu z.defers,y2,z.fresh⟩
  refine wpIn_mono (h3 (some B.b) (fun h=>by cases h) nx (by exact x2) c1 a1 _ hs1) ?_
  rintro e a2 y ⟨r,S2',ax',z1,z2,z3,z4,z5,z6⟩
  subst z5;subst z6;have hB2:r.f k=some B:=(z1.f k Q).trans K;obtain⟨B',n,hBi2,rec2,g2,t1,t2,t3,t4,t5,t6⟩:=z3.bu.obj k _ Y;rw[hB2] at n;cases n;refine I e r y z4 B.b _ a2 y ⟨_,_,run_endRound a t1,?_⟩;obtain ⟨u1, u2⟩ := z3.bu.bP Y hB2 A (.loop { rec2 with state := if a.isNone then .ready else .done, pending := a }) o (fun C hh W _=>by
   rw[ho];exact⟨_,g2,hh,rfl,rfl,t4,t5,fun t x hm=>by grind⟩)
  refine⟨r,_,L,V,((x1.toExtM.trans (y1.toM fun _ _=>rfl)).trans z1.toExtM).trans (u1.toM fun _ _=>rfl),u2,?_,z3.fresh,?_,rfl,rfl,rfl⟩
  . exact Nat.le_trans x2 z2
  . rw[hae];exact .bool _
 cases T with
 | normal=>exact m none _ _ rfl rfl (fun e r y s l N Z C h=>by cases e<;>first|exact s.elim|exact h) h4
 | ret=>exact m (some .ret) _ _ rfl rfl (fun e r y s l N Z C h=>by cases e<;>first|exact s.elim|exact h) h4
 | exit i=>exact m (some (.exit i)) _ _ rfl rfl (fun e r y s l N Z C h=>by cases e<;>first|exact s.elim|(obtain rfl:i=_:=s;exact h)) h4
 | goto i=>exact m (some (.goto i)) _ _ rfl rfl (fun e r y s l N Z C h=>by cases e<;>first|exact s.elim|(obtain rfl:i=_:=s;exact h)) h4
 | aR v=>grind
def NC (P:Program)(b:Option Code)(Q:Exit->Act->World->Prop)(a:Act)(w:World):Prop:=
 match b with
 | none=>Q .normal a w
 | some c=>c.wpIn (FR none) 0 P Q a w
def Ew (nx:Nat)(e:Tr AV)(n:Nat)(K:AX->Nat->St->Prop)(g:AE)(H:ai)(a:Nat):Prop:=
 match g with
 | .ret _ => ∃ f b h j d, H.get nx = some (.lp f b h j d) ∧ f ≠ .busy ∧ match b with
   | none=>K .normal a ⟨e,n,.put nx none H,0⟩
   | some .ret=>K .ret a ⟨e,n,.put nx none H,0⟩
   | some (.exit i)=>K (.exit i) a ⟨e,n,.put nx none H,0⟩
   | some (.goto l)=>K (.goto l) a ⟨e,n,.put nx none H,0⟩
   | _=>False
 | .aR _=>False
theorem DW.Xc {g:Operand}{ps:Array Tmp}{aS bd:Code}{K:AX->Nat->St->Prop}{nx:Nat}{S:St}{gf:FuncId}{cap:List AV}{kl:List (Nat×AV)}(hg:S.ev E g = .fn (.func gf) [] cap)(y:nx+1<2 ^ 24)(hkl:∀t x,(t,x)∈kl->S.bo.get t=some x)
 (h:DC P E gf (.fT nx::cap) (S.heap.set 24 nx (some (.lp .ready none kl S.bF (.rangeFunc g ps aS bd)))) (nx+1) (Ew nx S.bo S.bF K)):DW P E false nx (.rangeFunc g ps aS bd) K S:=by
 obtain⟨ae,H',nx',U,hR⟩:=h;cases ae with
 | aR v=>exact hR.elim
 | ret v0=>
 obtain⟨st,A,s2,n2,R,hk,dw,X⟩:=hR;have z:∀(W:AX),(∀(c':Ctx) (O:World) (a':Act) (Q:Exit->Act->World->Prop),(∀e,vF c' O W e->Q e a' O)->NC P A Q a' O)->K W nx' ⟨S.bo,S.bF,.put nx none H',0⟩->DW P E false nx (.rangeFunc g ps aS bd) K S:=by
  intro W hax X;refine⟨W,nx',⟨S.bo,S.bF,.put nx none H',0⟩,?_,X⟩;intro r hrr m hm c a w G;obtain rfl:=hrr rfl;have V:=G.ev g;rw[show(S.at_ nx).ev E g = .fn (.func gf) [] cap from hg] at V
  generalize hgv:a.eval g=gv at V
  cases V with
  | @fn _ _ _ _ _ vs us h1 h2 hr1 hr2=>
  have hvs:vs=[]:=eq_nil_of_length_eq_zero h1.symm;subst hvs;refine wpIn_rangeFunc ?_;intro fn _
  let D:=w.heap.size
  let o:Loop:={ state := .ready,pending:=none,fn,tmps:=a.tmps,params:=ps,assign:=aS,body:=bd,defers:=D }
  
  have C:aN E.bR c (w.alloc (.deferred (some []))) S.heap∧∀{x v},Rel c w x v->Rel c (w.alloc (.deferred (some []))) x v:=
   G.bu.same (I:=c.au) (w':=w.alloc (.deferred (some []))) (fun _ h=>h) (fun b B=>by have:=G.bu.bH b B;simp;omega) (fun _ _ h=>h) ag (fun b B=>Below.heap_alloc w _ b B)
  obtain⟨C,F⟩:=C;have hnx:c.f nx=none:=G.fresh nx (Nat.le_refl _);obtain ⟨e1, e2⟩ := C.vJ (k := nx) hnx y (.loop o) (.lp .ready none kl S.bF (.rangeFunc g ps aS bd)) (sz := 0) (n := 0) (fun c' O hh hrel _=>⟨o,g,hh,rfl,rfl,G.size,rfl,fun t x hm=>by
   obtain⟨v,v1,v2⟩:=G.bo t x (hkl t x hm)
   grind⟩)
  have hcb:∀j,nx+1≤j->(c.bind nx ⟨(w.alloc (.deferred (some []))).heap.size,0,0,0⟩).f j=none:=fun j hj=>by
   show(if j=nx then _ else c.f j)=none
   rw[if_neg aa];exact G.fresh j (le_of_succ_le hj)
  have hsz1:(w.alloc (.deferred (some []))).heap.size=w.heap.size+1:=World.size_alloc w _;have hbk:(c.bind nx ⟨(w.alloc (.deferred (some []))).heap.size,0,0,0⟩).f nx=some ⟨w.heap.size+1,0,0,0⟩:=by rw[hsz1];simp[Ctx.bind]
  have hus:aQ (c.bind nx ⟨(w.alloc (.deferred (some []))).heap.size,0,0,0⟩) ((w.alloc (.deferred (some []))).alloc (.loop o)) cap us:=
   ⟨h2,fun i x v e e'=>e1.rel C (F (hr2 i x v e e'))⟩
  have H:=U.2 _ _ (.func (.yield (w.heap.size+1)) #[] #[]::us) e2 hcb (.cons (.fT hbk) hus);have hD:((w.alloc (.deferred (some []))).alloc (.loop o)).heap[w.heap.size]? = some (.deferred (some [])):=(Below.heap_alloc _ _ _ ag).trans (World.alloc_heap_new w _);have hm0:m≤nx:=hm;obtain⟨fng,hfg,hbg,hng⟩:=U.1;refine⟨w.heap.size+1,[{ target := .collected w.heap.size,args:=#[] }],(w.alloc (.deferred (some []))).alloc (.loop o),{ target := .fn (.func gf) us.toArray,args:=#[.func (.yield (w.heap.size+1)) #[] #[]] },(w.alloc (.deferred (some []))).alloc (.loop o),gf,
   #[.func (.yield (w.heap.size+1)) #[] #[]]++us.toArray,(w.alloc (.deferred (some []))).alloc (.loop o),run_enterLoop_outer _ _ _ _ _,?_,fun _ _=>trivial,?_,(fun h=>by cases h),?_⟩
  . simp only [resolve, hgv]
    simp[go_sem]
  . simp[invoke,go_sem,qJ U.1]
  . refine Fg.2 ?_
    have harr:#[Value.func (.yield (w.heap.size+1)) #[] #[]]++us.toArray=(Value.func (.yield (w.heap.size+1)) #[] #[]::us).toArray:=ag;rw[harr];refine H.mono ?_
    rintro e w3 ⟨T,L,J,ae3,u,N,hn3,hfr3,her,rfl,rfl,rfl⟩
    cases e<;>first|exact her.elim|skip
    rename_i v3;have hB3:T.f nx=some ⟨w.heap.size+1,0,0,0⟩:=(u.f nx (lt_succ_self _)).trans hbk;obtain⟨B',hB',hBi',q,g3,t1,t2,t3,t4,t5,t6⟩:=N.obj nx _ hk;rw[hB3] at hB';cases hB';have hst3:q.state≠.busy:=by rw[t2];exact dw
    refine⟨q.pending,_,run_endLoop t1 hst3,?_⟩;obtain⟨u1,u2⟩:=N.bP hk hB3 y (.loop { q with state := .exhausted }) (.lp .exhausted A s2 n2 R) (fun O hh hrel _=>⟨_,g3,hh,rfl,t3,t4,t5,fun t x hm=>by grind⟩)
    obtain⟨d1,d2⟩:=u2.drop nx y;have hcg:∀j,(Tr.put nx none L).get j=((L.set 24 nx (some (.lp .exhausted A s2 n2 R))).set 24 nx none).get j:=fun j=>by
     rw[Tr.eP 24 nx _ _ j y,Tr.eP 24 nx _ _ j y];rw[show Tr.put nx none L=L.set 24 nx none from rfl,Tr.eP 24 nx _ _ j y]
     grind
    have hwf:=d2.congr (H' := .put nx none L) hcg;have ext0:ExtM m c w S.heap c (w.alloc (.deferred (some []))) S.heap:=
     ⟨fun _ _=>rfl,fun _ h=>h,rfl,rfl,rfl,ag,fun b B _=>Below.heap_alloc w _ b B,fun b B => .inl B,fun b B => .inl B⟩
    have ext1:=ext0.trans (e1.toM (m:=m) fun k hk'=>by show(if k=nx then _ else c.f k)=c.f k;grind)
    have ext2:=ext1.trans (u.less (by omega:m≤nx+1))
    have ext3:=ext2.trans (u1.toM (m:=m) fun _ _=>rfl)
    have ext4:=(ext3.trans (d1.toM (m:=m) fun _ _=>rfl)).congr (K' := .put nx none L) hcg
    have Z:iP (c.bind nx ⟨(w.alloc (.deferred (some []))).heap.size,0,0,0⟩) ((w.alloc (.deferred (some []))).alloc (.loop o)) ((w.alloc (.deferred (some []))).alloc (.loop o)).heap.size ({ target := .collected w.heap.size,args:=#[] }::a.defers):=
     ⟨w.heap.size,rfl,by grind,fun hi=>Nat.lt_irrefl _ (G.bu.bH _ hi),hD,G.defers.mono (Nat.le_refl _) fun D' hlt hi hD'=>⟨hi,by
      rw[Below.heap_alloc _ _ _ aa,Below.heap_alloc w _ _ hlt];omega⟩⟩
    have hdef2:=u.defs e2 Z;have Y:=u1.defs N hdef2;have hrelAll:∀{x v},Rel c w x v->Rel T (w3.putObj (w.heap.size+1) (.loop { q with state := .exhausted })) x v:=fun {x v} hr=>by
     have hr1:=e1.rel C (F hr);have hle3:(c.bind nx ⟨(w.alloc (.deferred (some []))).heap.size,0,0,0⟩).le T:=⟨fun k p e=>by
      by_cases hk':k<nx+1
      . rw[u.f k hk'];exact e
      grind,u.au⟩
     have hr2':Rel T w3 x v:=hr1.mono hle3 (fun b B=>u.other b (e2.bH b B) (e2.kO B))
     exact u1.rel N hr2'
    have hsimF:c_ P E T ((⟨S.bo,S.bF,.put nx none L,0⟩:St).at_ J) { a with defers:=[{ target := .collected w.heap.size,args:=#[] }]++a.defers } (w3.putObj (w.heap.size+1) (.loop { q with state := .exhausted })):=
     ⟨G.size,fun t x e=>by obtain⟨v,v1,v2⟩:=G.bo t x e;grind,Y,hwf,hfr3⟩
    have hQ:∀e,vF T (w3.putObj (w.heap.size+1) (.loop { q with state := .exhausted })) W e->QS P E m c a w (S.at_ nx) (fun a s=>a=W∧s=(⟨S.bo,S.bF,.put nx none L,0⟩:St).at_ J) e { a with defers:=[{ target := .collected w.heap.size,args:=#[] }]++a.defers } (w3.putObj (w.heap.size+1) (.loop { q with state := .exhausted })):=fun e he=>
     ⟨T,(⟨S.bo,S.bF,.put nx none L,0⟩:St).at_ J,W,⟨ext4,[{ target := .collected w.heap.size,args:=#[] }],rfl,fun d hd=>⟨w.heap.size,by grind,Nat.le_refl _⟩⟩,(show nx≤J from le_of_succ_le hn3),hsimF,he,rfl,rfl⟩
    have hp:=hax T _ _ _ hQ;rw[<-t3] at hp
    assumption
 cases A with
 | none=>exact z .normal (fun c' O a' Q h=>h .normal trivial) X
 | some cd =>
   cases cd with
   | ret=>exact z .ret (fun c' O a' Q h=>wpIn_ret (h .ret trivial)) X
   | exit i=>exact z (.exit i) (fun c' O a' Q h=>wpIn_exit (h (.exit i) rfl)) X
   | goto l=>exact z (.goto l) (fun c' O a' Q h=>wpIn_goto (h (.goto l) rfl)) X
   | _=>exact X.elim
def yd:List Tmp->List AV->Tr AV->(Tr AV->Prop)->Prop
 | p::b,x::d,t,k=>yd b d (.put p (some x) t) k
 | _,_,t,k=>k t
theorem JG:∀{ps:List Tmp} {xs:List AV} {t:Tr AV} {k:Tr AV->Prop},yd ps xs t k->k (sG ps xs t)
 | [],xs,t,k,h=>by assumption
 | _::_,[],_,_,h=>h
 | p::ps,x::xs,t,k,h=>JG (xs:=xs) h
def Nj (k:Nat)(R:AE->ai->Nat->Prop)(e:AX)(nx:Nat)(S:St):Prop:=
 match S with
 | ⟨_, _, H, _⟩ => dN k (fun o => match o with
   | .lp _ _ b n a => match e with
     | .normal=>R (.ret (.bool true)) (.put k (some (.lp .ready none b n a)) H) nx
     | .ret=>R (.ret (.bool false)) (.put k (some (.lp .done (some .ret) b n a)) H) nx
     | .exit i=>R (.ret (.bool false)) (.put k (some (.lp .done (some (.exit i)) b n a)) H) nx
     | .goto l=>R (.ret (.bool false)) (.put k (some (.lp .done (some (.goto l)) b n a)) H) nx
     | .aR _=>False
   | _=>False) H
theorem zas {k:Nat}{R:AE->ai->Nat->Prop}{e:AX}{nx:Nat}{S:St}(h:Nj k R e nx S):EA k R e nx S:=by
 obtain⟨o,g,h⟩:=lE h;cases o with
 | lp f a d i b=>exact⟨f,a,d,i,b,g,by assumption⟩
 | _=>grind
def Ea (P:Program)(E:Env)(k:Nat)(R:AE->ai->Nat->Prop)(b:Code)(e:AX)(nx:Nat)(S:St):Prop:=
 match e with
 | .normal => match S with
   | ⟨d, n, H, _⟩ => dN k (fun o => match o with
     | .lp .ready none f g a=>fI P E true b (Nj k R) nx ⟨d,n,.put k (some (.lp .busy none f g a)) H,0⟩
     | _=>False) H
 | _=>False
def Nk (P:Program)(E:Env)(k:Nat)(args:List AV)(H:ai)(nx:Nat)(R:AE->ai->Nat->Prop):Prop:=
 dN k (fun o=>match o with
  | .lp .ready none e a (.rangeFunc _ b f g)=>cond (beq b.size args.length && b.toList.all (fun p=>blt p a) && ble (k+2) 16777216) (mm e fun T=>yd b.toList args T fun d=>fI P E true f (Ea P E k R g) nx ⟨d,a,H,0⟩) False
  | _=>False) H
theorem DY.walk (m:bW P E)(a:P.follows .mixedOrders=true){k nx:Nat}{args:List AV}{H:ai}{R:AE->ai->Nat->Prop}(h:Nk P E k args H nx R):DY P E k args H nx R:=by
 unfold Nk at h;obtain⟨o,r,h⟩:=lE h;split at h<;>first|exact h.elim|skip
 rename_i C d g i n q;cases f:beq i.size args.length && i.toList.all (fun p=>blt p d) && ble (k+2) 16777216 with
 | false=>grind
 | true =>
   rw[f] at h;simp only[Bool.and_eq_true,all_eq_true] at f;have h:=JG (nC (k:=fun T=>yd i.toList args T fun x=>fI P E true n (Ea P E k R q) nx ⟨x,d,H,0⟩) h)
   refine DY.nD r (eq_of_beq_eq_true f.1.1) (fun p B=>by simp_all) (by have:=le_of_ble_eq_true f.2;omega) ((DW.gp m a n h).mono fun e t u b=>?_)
   cases e<;>first|exact b.elim|skip
   obtain⟨v,D,F,G⟩:=u;simp only[Ea] at b;obtain⟨I,l,b⟩:=lE b;split at b<;>first|exact b.elim|skip
   rename_i s z y;exact⟨rfl,s,z,y,l,(DW.gp m a q b).mono fun e A J j=>zas j⟩
def JR (nx:Nat)(d:Tr AV)(n:Nat)(K:AX->Nat->St->Prop)(e:AE)(H:ai)(a:Nat):Prop:=
 match e with
 | .ret _ => dN nx (fun o => match o with
   | .lp f b _ _ _ => match f with
     | .busy=>False
     | _ => match b with
       | none=>K .normal a ⟨d,n,.put nx none H,0⟩
       | some .ret=>K .ret a ⟨d,n,.put nx none H,0⟩
       | some (.exit i)=>K (.exit i) a ⟨d,n,.put nx none H,0⟩
       | some (.goto l)=>K (.goto l) a ⟨d,n,.put nx none H,0⟩
       | _=>False
   | _=>False) H
 | .aR _=>False
theorem Xm {nx:Nat}{e:Tr AV}{n:Nat}{K:AX->Nat->St->Prop}{d:AE}{H:ai}{b:Nat}(h:JR nx e n K d H b):Ew nx e n K d H b:=by
 cases d with
 | aR v=>exact h
 | ret v =>
   obtain⟨o,i,h⟩:=lE h;cases o with
   | lp k a l m f =>
     refine⟨k,a,l,m,f,i,?_,?_⟩
     . grind
     grind
   | _=>grind
theorem DW.range (a:List Nat){g:Operand}{ps:Array Tmp}{f k:Code}{K:AX->Nat->St->Prop}{nx:Nat}{S:St}
 (h:match S with
   | ⟨b, n, H, _⟩ => match St.ev E ⟨b, n, H, 0⟩ g with
     | .fn (.func i) [] cap=>cond (ble (nx+2) 16777216) (kL ⟨b,n,H,0⟩ a fun e=>fL AV.f1 (.fT nx::cap) fun args=>DC P E i args (.put nx (some (.lp .ready none e n (.rangeFunc g ps f k))) H) (nx+1) (JR nx b n K)) False
     | _=>False):DW P E false nx (.rangeFunc g ps f k) K S:=by
 obtain⟨b,n,H,x⟩:=S
 dsimp at h
 split at h
 . rename_i i cap l
   cases j:ble (nx+2) 16777216 with
   | false=>grind
   | true =>
     rw[j] at h;obtain⟨e,h,d⟩:=B8 h;have h:=gj (fun _ _ h=>AV.gi h) h
     exact DW.Xc l (by have:=le_of_ble_eq_true j;omega) d (DC.mono h fun p H o m=>Xm m)
 grind
end
end Go.Ago
end
namespace Go.Ago
open List Nat
theorem DC.bump {P:Program}{E:Env}{g:FuncId}{args:List AV}{H:ai}{nx m:Nat}{R:AE->ai->Nat->Prop}(a:ble nx m=true)(h:DC P E g args H m R):DC P E g args H nx R:=by
 obtain⟨i,f,b,⟨j,l⟩,n⟩:=h;have a:=le_of_ble_eq_true a;refine⟨i,f,b,⟨j,fun c w F p q r=>?_⟩,n⟩
 refine(l c w _ p (fun k s=>q k (Nat.le_trans a s)) r).mono fun e D u=>?_
 obtain⟨v,o,y,t,A,x,z,C,B,d⟩:=u;exact⟨v,o,y,t,A.less a,x,Nat.le_trans a z,C,B,d⟩
theorem ExtM.from_ {m:Nat}{c c':Ctx}{w w':World}{H H' K:ai}(h:ExtM m c w H c' w' H')(d:∀j,K.get j=H.get j):ExtM m c w K c' w' H':=
 ⟨h.f,h.au,h.os,h.tape,h.output,h.size,fun b a g=>h.other b a (fun e=>g (e.congr d)),fun b a=>(h.eG b a).imp id (Or.imp (Own.congr d) id),fun b a=>(h.own b a).imp (Own.congr d) id⟩
theorem DC.heap {P:Program}{E:Env}{g:FuncId}{args:List AV}{H K:ai}{nx:Nat}{R:AE->ai->Nat->Prop}(b:∀j,H.get j=K.get j)(h:DC P E g args K nx R):DC P E g args H nx R:=by
 obtain⟨i,f,a,⟨k,l⟩,m⟩:=h;refine⟨i,f,a,⟨k,fun c w C o p q=>?_⟩,m⟩
 refine(l c w _ (o.congr fun j=>(b j).symm) p q).mono fun e B s=>?_
 obtain⟨t,n,v,r,y,u,x,A,z,d⟩:=s;exact⟨t,n,v,r,y.from_ b,u,x,A,z,d⟩
def VM (K:AX->St->Prop):AX->St->Prop
 | .goto _,_=>False
 | e,S=>K e S
theorem SW.scope {P:Program}{E:Env}{code:Code}{K:AX->St->Prop}{S:St}(h:SW P E false code (VM K) S):SW P E false (.scope code) K S:=by
 intro r j m u c a w k;obtain rfl:=j rfl;have f:=h none (ag) m u c a w k;have v:FR _=Fence.wide:=rfl;rw[v] at f ⊢;rw[wpIn_wide] at *;refine wp_scope_straight (wp_mono f fun e x y o=>?_)
 obtain⟨p,q,d,n,t,s,g,b⟩:=o;cases e with
 | goto l =>
   cases d<;>first|exact b.elim|exact g.elim
 | _=>cases d<;>first|exact b.elim|exact⟨p,q,_,n,t,s,g,b⟩
def IJ (K:AX->Nat->St->Prop)(e:AX)(n:Nat)(S:St):Prop:=
 match e with
 | .goto _=>False
 | e=>K e n S
theorem DW.scope {P:Program}{E:Env}(j:bW P E)(b:P.follows .mixedOrders=true){code:Code}{K:AX->Nat->St->Prop}{nx:Nat}{S:St}(h:fI P E false code (IJ K) nx S):DW P E false nx (.scope code) K S:=by
 obtain⟨e,c,g,i,d⟩:=DW.gp j b _ h;refine⟨e,c,g,SW.scope (i.mono fun a s f=>?_),?_⟩
 . obtain ⟨rfl, rfl⟩ := f
   cases a<;>first|exact d.elim|exact⟨rfl,rfl⟩
 cases e<;>first|exact d.elim|exact d
end Go.Ago
section
namespace Go.Ago
open List Nat
def an.eF:an->Prop
 | .arr _ a=>(a.all fun e=>e.all hY)=true
 | .dG _ _=>True
 | .lp _ _ _ _ _=>False
 | .mp a=>(a.all fun p=>hY p.2)=true
 | .cm _ _=>True
theorem fH.eF {c c':Ctx}{w:World}{B:fp}{o:an}(hi:c'.au=c.au)(h:fH c w B o)(p:o.eF):fH c' w B o:=by
 cases o with
 | arr N A =>
   obtain⟨arr,t,g,l,m,y,n⟩:=h;refine⟨arr,t,g,l,m,y,fun i e u=>⟨(n i e u).1,fun j x C=>?_⟩⟩
   obtain⟨v,I,G⟩:=(n i e u).2 j x C;exact⟨v,I,wV hi G (all_eq_true.1 (all_eq_true.1 p e (mem_of_getElem? u)) x (mem_of_getElem? C))⟩
 | dG s E=>exact h
 | lp R D P H z=>exact p.elim
 | mp A =>
   obtain⟨q,b,a,g,l,m,f,y,n,K⟩:=h;exact⟨q,b,a,g,l,m,f,y,n,fun k x e=>wV hi (K k x e) (all_eq_true.1 p _ e)⟩
 | cm L A =>
   obtain⟨q,r,b,a,seen,g,l,m⟩:=h;have O:c'.bare=c.bare:=by unfold Ctx.bare;rw[hi]
   exact⟨q,r,b,a,seen,g,by grind,by grind⟩
variable {P:Program} {E:Env}
def tG (ρ:Nat->Nat)(c b H H2:ai):Prop:=
 ∀j o,H2.get j=some o->(H.get j=some o∧∀k a,c.get k=some a->ρ k≠j)∨∃k a,c.get k=some a∧ρ k=j∧b.get k=some o∧o.eF
def Ny (ρ:Nat->Nat)(b:Nat)(c a:AE):Prop:=(c.flat=true∧a=c)∨∃k i n s,k<b∧c = .ret (.az k i n s)∧a = .ret (.az (ρ k) i n s)
theorem AC.Bp {g:FuncId}{args m:List AV}{H D:ai}{nx d:Nat}{R R0:AE->ai->Nat->Prop}(ρ:Nat->Nat)(h:AC P E g m D d R0)
 (hr:args=m.map (AV.r2 ρ))(hl:m.all (AV.l2 d)=true)(T:∀k o,D.get k=some o->k<d∧H.get (ρ k)=some o∧o.eF)
 (hi:∀k k' o o',D.get k=some o->D.get k'=some o'->ρ k=ρ k'->k=k')
 (hq:∀ae H' L,R0 ae H' L->∃F,Ny ρ d ae F∧∃H2,tG ρ D H' H H2∧R F H2 nx):AC P E g args H nx R:=by
 refine⟨h.1,fun c w vs r hf hrl=>?_⟩
 have p:∀k,k<d->(⟨fun k=>if k<d then c.f (ρ k) else none,c.au⟩:Ctx).f k=c.f (ρ k):=fun k u=>if_pos u
 have hbare:(⟨fun k=>if k<d then c.f (ρ k) else none,c.au⟩:Ctx).bare=c.bare:=rfl
 have hw0:aN E.bR ⟨fun k=>if k<d then c.f (ρ k) else none,c.au⟩ w D:=by
  refine⟨r.bH,fun k B e=>?_,fun k o e=>?_,fun k k' o o' B V e e' f f' l=>?_,fun g cs e=>?_⟩
  . by_cases u : k < d
    . rw[p k u] at e;exact r.bX _ B e
    grind
  . obtain ⟨M, N, g3⟩ := T k o e
    obtain⟨B,G,b2,X⟩:=r.obj _ _ N;exact⟨B,(p k M).trans G,b2,fH.eF (c:=c) rfl X g3⟩
  . obtain ⟨M, N, _⟩ := T k o e
    obtain⟨g1',g2',_⟩:=T k' o' e';rw[p k M] at f;rw[p k' g1'] at f';exact hi k k' o o' e e' (r.inj _ _ _ _ B V N g2' f f' l)
  . have := r.bR g cs e
    cases this with
    | bq t K U h4=>exact .bq t K U h4
 have hr0:aQ ⟨fun k=>if k<d then c.f (ρ k) else none,c.au⟩ w m vs:=by
  subst hr;exact qD (c:=c) (f:=AV.r2 ρ) (fun y v a b=>sJ (c:=c) (c':=⟨fun k=>if k<d then c.f (ρ k) else none,c.au⟩) (ρ:=ρ) (n:=d) rfl p a b) hl hrl.1 hrl.2
 have I:∀b,Own ⟨fun k=>if k<d then c.f (ρ k) else none,c.au⟩ D b->∃k O B,D.get k=some O∧H.get (ρ k)=some O∧c.f (ρ k)=some B∧B.b=b:=by
  rintro b ⟨k,o,B,u,S,rfl⟩
  obtain⟨M,N,_⟩:=T k o u;rw[p k M] at S;exact⟨k,o,B,u,N,S,rfl⟩
 have z:∀b,Own ⟨fun k=>if k<d then c.f (ρ k) else none,c.au⟩ D b->Own c H b:=fun b l=>by
  obtain⟨k,o,B,_,K,U,h4⟩:=I b l;exact⟨ρ k,o,B,K,U,h4⟩
 refine(h.2 _ w vs hw0 (fun k u=>if_neg (Nat.not_lt.2 u)) hr0).mono ?_
 rintro e w' ⟨Q,H',L,ae,q,Y,_,_,A,hR⟩
 obtain⟨F,hfl,H2,Z,hR2⟩:=hq ae H' L hR;have W:∀b,c.au b->w'.heap[b]? = w.heap[b]?:=fun b l=>q.other b (r.bH b l) fun ho=>r.kO l (z b ho)
 have hle:c.le ⟨c.f,Q.au⟩:=⟨fun _ _ e=>e,fun b l=>q.au b l⟩
 have J:∀{x v},Rel c w x v->Rel ⟨c.f,Q.au⟩ w' x v:=fun hr=>hr.mono hle W
 have C:∀j o,H2.get j=some o->∃o1,H.get j=some o1:=fun j o e=>by
  rcases Z j o e with⟨t,_⟩|⟨k,O,t,rfl,_⟩
  . grind
  grind
 refine⟨⟨c.f,Q.au⟩,H2,nx,F,⟨fun _ _=>rfl,fun b l=>q.au b l,q.os,q.tape,q.output,q.size,fun b l hn=>q.other b l fun ho=>hn (z b ho),fun b l=>?_,fun b l=>?_⟩,
  ⟨Y.bH,fun k B e=>Nat.lt_of_lt_of_le (r.bX k B e) q.size,fun j o e=>?_,fun k k' o o' B V e e' f f' l=>?_,fun g cs e=>J (r.bR g cs e)⟩,Nat.le_refl _,hf,?_,hR2⟩
 . rcases q.eG b l with g | g | g
   . grind
   . grind
   omega
 . obtain ⟨j, o, B, e1, e2, rfl⟩ := l
   obtain⟨o1,e3⟩:=C j o e1;exact .inl ⟨j,o1,B,e3,e2,rfl⟩
 . rcases Z j o e with ⟨t, K⟩ | ⟨k, O, t, rfl, K, U⟩
   . obtain ⟨B, G, b2, X⟩ := r.obj j o t
     have hno:¬Own ⟨fun k=>if k<d then c.f (ρ k) else none,c.au⟩ D B.b:=fun ho=>by
      obtain⟨k,O,V,M,N,g3,g4⟩:=I _ ho;exact K k O M (r.inj _ _ _ _ V B N t g3 G g4)
     refine⟨B,G,fun hi=>?_,X.mono (q.other _ (r.bX _ _ G) hno) J (fun b l=>⟨hle.au b l,W b l⟩)⟩
     rcases q.eG _ hi with g|g|g
     . grind
     . grind
     . have:=r.bX _ _ G;omega
   . obtain ⟨B, G, b2, X⟩ := Y.obj k o K
     have u:=(T k O t).1;exact⟨B,((q.f k u).trans (p k u)).symm.trans G,b2,fH.eF (c:=Q) rfl X U⟩
 . obtain ⟨o1, e1⟩ := C k o e
   obtain⟨o2,e2⟩:=C k' o' e';exact r.inj _ _ _ _ B V e1 e2 f f' l
 . rcases hfl with ⟨t, rfl⟩ | ⟨k, i, n, s, t, rfl, rfl⟩
   . exact wX A t
   . cases e <;> first | exact A.elim | skip
     have A:Rel Q w' (.az k i n s) _:=A;cases A with
     | az q1 q2 q3 q4 q5 =>
       rw[q.f k t,p k t] at q1;exact(Rel.az q1 q2 q3 q4 q5:Rel ⟨c.f,Q.au⟩ w' (.az (ρ k) i n s) _)
theorem AC.frame {g:FuncId}{args a:List AV}{H c:ai}{nx b:Nat}{R j:AE->ai->Nat->Prop}(ρ:Nat->Nat)(h:AC P E g a c b j)
 (n:args=a.map (AV.r2 ρ))(l:a.all (AV.l2 b)=true)(m:∀k o,c.get k=some o->k<b∧H.get (ρ k)=some o∧o.eF)
 (hi:∀k k' o o',c.get k=some o->c.get k'=some o'->ρ k=ρ k'->k=k')
 (i:∀d H' e,j d H' e->d.flat=true∧∃H2,tG ρ c H' H H2∧R d H2 nx):AC P E g args H nx R:=
 AC.Bp _ h n l m hi fun d H' e f=>⟨d,.inl ⟨(i _ _ _ f).1,rfl⟩,(i _ _ _ f).2⟩
theorem DC.Bn {g:FuncId}{args c:List AV}{H:ai}{nx k:Nat}{o:an}{R:AE->ai->Nat->Prop}{p:AE->ai->Nat->Prop}(h:DC P E g c (.put 0 (some o) .nil) 1 p)
 (u:args=c.map (AV.r2 fun _=>k))(v:c.all (AV.l2 1)=true)(C:H.get k=some o)(I:o.eF)
 (t:∀l H' d,p l H' d->∃i n s,l = .ret (.az 0 i n s)∧∃o',H'.get 0=some o'∧o'.eF∧R (.ret (.az k i n s)) (.put k (some o') H) nx):DC P E g args H nx R:=by
 have x:∀j f,(Tr.put 0 (some o) Tr.nil:ai).get j=some f->j=0∧f=o:=by
  intro j f e;rw[Tr.get] at e;cases b:beq j 0 with
  | true=>simp_all
  | false=>rw[b] at e;cases e
 obtain⟨l,H',d,y,z⟩:=h;obtain⟨i,n,s,rfl,o',w,r,A⟩:=t l H' d z;refine⟨_,_,nx,AC.Bp (fun _=>k) y u v (fun j f e=>?_) (fun j D f F e G _=>?_) (fun a h m B=>?_),A⟩
 . grind
 . grind
 . obtain ⟨rfl, rfl, rfl⟩ := B
   refine⟨_,.inr ⟨0,i,n,s,Nat.zero_lt_one,rfl,rfl⟩,.put k (some o') H,fun j f e=>?_,rfl,rfl,rfl⟩
   rw[Tr.get] at e;cases b:beq j k with
   | true =>
     rw[b] at e;cases e;exact .inr ⟨0,o,rfl,(eq_of_beq_eq_true b).symm,w,r⟩
   | false =>
     rw[b] at e;refine .inl ⟨e,fun J K _ q=>?_⟩
     subst q
     simp_all
theorem DC.frame {g:FuncId}{args b:List AV}{H d:ai}{nx c:Nat}{R i:AE->ai->Nat->Prop}(ρ:Nat->Nat)(h:DC P E g b d c i)
 (q:args=b.map (AV.r2 ρ))(p:b.all (AV.l2 c)=true)(j:∀k o,d.get k=some o->k<c∧H.get (ρ k)=some o∧o.eF)
 (hi:∀k k' o o',d.get k=some o->d.get k'=some o'->ρ k=ρ k'->k=k')
 (m:∀e H' f,i e H' f->e.flat=true∧∃H2,tG ρ d H' H H2∧R e H2 nx):DC P E g args H nx R:=by
 obtain⟨e,H',f,r,s⟩:=h;obtain⟨t,H2,u,l⟩:=m _ _ _ s;exact⟨e,H2,nx,AC.frame _ r q p j hi (fun a h n j=>by grind),l⟩
theorem DC.ng {g:FuncId}{args a:List AV}{H:ai}{nx k:Nat}{o:an}{R:AE->ai->Nat->Prop}{i:AE->ai->Nat->Prop}(h:DC P E g a (.put 0 (some o) .nil) 1 i)
 (l:args=a.map (AV.r2 fun _=>k))(p:a.all (AV.l2 1)=true)(A:H.get k=some o)(w:o.eF)
 (n:∀f H' c,i f H' c->f.flat=true∧∃o',H'.get 0=some o'∧o'.eF∧R f (.put k (some o') H) nx):DC P E g args H nx R:=by
 have q:∀j d,(Tr.put 0 (some o) Tr.nil:ai).get j=some d->j=0∧d=o:=by
  intro j d e;rw[Tr.get] at e;cases b:beq j 0 with
  | true=>simp_all
  | false=>rw[b] at e;cases e
 refine DC.frame (fun _=>k) h l p (fun j d e=>?_) (fun j x d y e z _=>?_) fun f H' c m=>?_
 . grind
 . grind
 . obtain ⟨t, o', s, u, v⟩ := n f H' c m
   refine⟨t,_,fun j d e=>?_,v⟩
   rw[Tr.get] at e;cases b:beq j k with
   | true =>
     rw[b] at e;cases e;exact .inr ⟨0,o,rfl,(eq_of_beq_eq_true b).symm,s,u⟩
   | false =>
     rw[b] at e;refine .inl ⟨e,fun B C _ r=>?_⟩
     subst r
     simp_all
end Go.Ago
namespace Go.Ago
open List Nat
variable {P:Program} {E:Env}
theorem DC.raise {g:FuncId}{args:List AV}{H:ai}{nx M:Nat}{R R':AE->ai->Nat->Prop}(h:DC P E g args H nx R)(d:∀a H' n,R a H' n->n≤M∧R' a H' M):DC P E g args H nx R':=by
 obtain⟨a,H',e,⟨f,i⟩,k⟩:=h;obtain⟨o,l⟩:=d _ _ _ k;refine⟨a,H',M,⟨f,fun c w p j m b=>(i c w _ j m b).mono ?_⟩,l⟩
 grind
theorem DC.nh {g:FuncId}{args a:List AV}{H:ai}{nx k l:Nat}{o p:an}{R:AE->ai->Nat->Prop}{t:AE->ai->Nat->Prop}(h:DC P E g a (.put 0 (some o) (.put 1 (some p) .nil)) 2 t)
 (w:args=a.map (AV.r2 fun j=>bif beq j 0 then k else l))(B:a.all (AV.l2 2)=true)(i:k≠l)(M:H.get k=some o)(m:H.get l=some p)(L:o.eF)(u:p.eF)
 (x:∀n H' f,t n H' f->n.flat=true∧∃o',H'.get 0=some o'∧H'.get 1=some p∧o'.eF∧R n (.put k (some o') H) nx):DC P E g args H nx R:=by
 have d:∀j c,(Tr.put 0 (some o) (Tr.put 1 (some p) Tr.nil):ai).get j=some c->(j=0∧c=o)∨(j=1∧c=p):=by
  intro j c e;rw[Tr.get] at e;cases b:beq j 0 with
  | true=>simp_all
  | false =>
    rw[b] at e;simp only[cond_false] at e;rw[Tr.get] at e;cases b:beq j 1 with
    | true=>simp_all
    | false=>rw[b] at e;cases e
 refine DC.frame (fun j=>bif beq j 0 then k else l) h w B (fun j c e=>?_) (fun j y c z e A q=>?_) fun n H' f C=>?_
 . rcases d j c e with ⟨rfl, rfl⟩ | ⟨rfl, rfl⟩
   . simp_all
   . exact⟨ab,m,u⟩
 . rcases d j c e with ⟨rfl, rfl⟩ | ⟨rfl, rfl⟩ <;> rcases d y z A with ⟨rfl, rfl⟩ | ⟨rfl, rfl⟩
   . rfl
   . exact absurd q i
   . exact absurd q.symm i
   . rfl
 . obtain ⟨D, o', G, s, I, F⟩ := x n H' f C
   refine⟨D,_,fun j c e=>?_,F⟩
   rw[Tr.get] at e;cases b:beq j k with
   | true =>
     rw[b] at e;cases e;exact .inr ⟨0,o,rfl,(eq_of_beq_eq_true b).symm,G,I⟩
   | false =>
     rw[b] at e;simp only[cond_false] at e
     by_cases v:j=l
     . subst v
       rw[m] at e;cases e;exact .inr ⟨1,p,rfl,rfl,s,u⟩
     . refine .inl ⟨e, fun J K r q => ?_⟩
       rcases d J K r with⟨rfl,rfl⟩|⟨rfl,rfl⟩
       . simp_all
       . exact v q.symm
end Go.Ago
namespace Go.Ago
open List Nat
variable {P:Program} {E:Env}
theorem DC.forget {g:FuncId}{args:List AV}{H:ai}{nx:Nat}{R R':AE->ai->Nat->Prop}(h:DC P E g args H nx R)
 (q:∀i H' n,R i H' n->∃H2 M,n≤M∧(∀k o,H2.get k=some o->H'.get k=some o)∧R' i H2 M):DC P E g args H nx R':=by
 obtain⟨i,H',r,⟨x,F⟩,t⟩:=h;obtain⟨H2,M,m,j,s⟩:=q _ _ _ t;refine⟨i,H2,M,⟨x,fun c w S u v l=>(F c w _ u v l).mono ?_⟩,s⟩
 rintro e T ⟨z,U,L,K,a,d,G,y,A,rfl,rfl,rfl⟩
 refine⟨z,H2,M,_,⟨a.f,a.au,a.os,a.tape,a.output,a.size,a.other,a.eG,fun b D=>?_⟩,⟨d.bH,d.bX,fun k o e=>d.obj k o (j k o e),fun k N o O B Q e C=>d.inj k _ o _ B _ (j k o e) (j _ _ C),d.bR⟩,Nat.le_trans G m,fun k I=>y k (Nat.le_trans m I),A,rfl,rfl,rfl⟩
 obtain⟨k,o,B,J,p,rfl⟩:=D;exact a.own _ ⟨k,o,B,j k o J,p,rfl⟩
end Go.Ago
namespace Go.Ago
open List Nat
variable {P:Program} {E:Env}
theorem DC.new {nx K0 sz n:Nat}{es:List (List AV)}{g:FuncId}{args args':List AV}{H:ai}{R:AE->ai->Nat->Prop}(z:aM (snap .nil 20) args=some args')
 (h:DC P E g args' .nil 0 (fun o H' _=>o = .ret (.az K0 0 n sz)∧H'.get K0=some (.arr sz es)))(A:(es.all fun e=>e.all hY)=true)(C:ble (nx+2) 16777216=true)
 (D:R (.ret (.az nx 0 n sz)) (.put nx (some (.arr sz es)) H) (nx+1)):DC P E g args H nx R:=by
 obtain⟨o,H1,K,⟨W,s⟩,rfl,t⟩:=h;refine⟨_,_,_,⟨W,fun c w u f a l=>?_⟩,D⟩
 have d:=nJ (c':=c.bare) z l (fun x v y=>kR f.Ct (fun b m=>m) (fun b m=>(lJ m).elim) 20)
 refine(s c.bare w u f.empty (fun _ _=>rfl) d).mono ?_
 rintro e Z ⟨c1,H2,n2,a2,I,J,k3,k4,q,rfl,rfl,rfl⟩
 have L:=le_of_ble_eq_true C;obtain⟨M,B,G,N,O,F,S⟩:=f.EB (a nx (Nat.le_refl _)) (by omega:nx+1<2 ^ 24) I J t (fun i e T j x U=>all_eq_true.1 (all_eq_true.1 A e (mem_of_getElem? T)) x (mem_of_getElem? U))
 refine⟨M,_,_,_,F nx (Nat.le_refl _),S,le_succ _,fun k hk=>(O k aa).trans (a k aa),?_,rfl,rfl,rfl⟩
 cases e<;>first|exact q.elim|skip
 cases q with
 | az p V X Y r =>
   rw[G] at p;cases p;exact .az N V X Y r
end Go.Ago
namespace Go.Ago
open List Nat
variable {P:Program} {E:Env}
theorem DC.NU {g:FuncId}{args:List AV}{H:ai}{nx:Nat}{R R':AE->ai->Nat->Prop}(h:DC P E g args H nx R)(q:∀a H' n,R a H' n->(∃v,a = .ret v)∧R' (.ret .any) H' n):DC P E g args H nx R':=by
 obtain⟨a,H',d,⟨i,j⟩,k⟩:=h;obtain⟨⟨v,rfl⟩,m⟩:=q _ _ _ k;refine⟨.ret _,H',d,⟨i,fun c w x o p b=>(j c w _ o p b).mono ?_⟩,m⟩
 rintro e y ⟨l,z,A,B,s,r,t,u,f,rfl,rfl,rfl⟩
 refine⟨l,_,_,.ret _,s,r,t,u,?_,rfl,rfl,rfl⟩;cases e<;>first|exact f.elim|exact Rel.any _
end Go.Ago
end
section
namespace Go.Ago
open List Nat
section
variable {P:Program} {E:Env} {c:Ctx} {w:World}
theorem aN.only {G:eZ}{H:ai}(h:aN G c w H){nm:Nat}{o:an}(f:H.get nm=some o):aN G c w (.put nm (some o) .nil):=by
 have d:∀j a,(Tr.put nm (some o) Tr.nil).get j=some a->j=nm∧a=o:=by
  intro j a e;rw[Tr.get] at e;cases b:beq j nm with
  | true=>simp_all
  | false=>rw[b] at e;cases e
 refine⟨h.bH,h.bX,fun k a e=>?_,fun k i a l B m e g _ _ _=>?_,h.bR⟩
 . obtain ⟨rfl, rfl⟩ := d k _ e
   exact h.obj _ _ f
 grind
def gJ (nm:Nat)(o:an)(x y:AV):Prop:=y=x∨snap (.put nm (some o) .nil) 20 x=some y
def j3 (nm:Nat)(o:an)(a b:an):Prop:=
 b=a∨∃h g d,a = .arr h g∧b = .arr h d∧d.length≤g.length∧∀(i:Nat) f,d[i]? = some f->∃e,g[i]? = some e∧f.length=e.length∧∀(j:Nat) y,f[j]? = some y->∃x,e[j]? = some x∧gJ nm o x y
theorem dt.freeze {m:Nat}{S S':St}(nm:Nat)(o:an)(A:S.heap.get nm=some o)(U:S'.bF=S.bF)(hx:S'.next=S.next)(T:∀t y,S'.bo.get t=some y->∃x,S.bo.get t=some x∧gJ nm o x y)
 (C:∀k b,S'.heap.get k=some b->k≠nm∧∃a,S.heap.get k=some a∧j3 nm o a b):dt P E m S S':=by
 intro c a w h;obtain⟨B,L,b2,b3⟩:=h.bu.obj nm o A;have r:c.le ⟨c.f,fun b=>c.au b∨b=B.b⟩:=⟨fun _ _ e=>e,fun _ d => .inl d⟩
 have l:∀{x v},Rel c w x v->Rel ⟨c.f,fun b=>c.au b∨b=B.b⟩ w x v:=fun H=>H.mono r (fun _ _=>rfl)
 have J:∀{x y v},gJ nm o x y->Rel c w x v->Rel ⟨c.f,fun b=>c.au b∨b=B.b⟩ w y v:=by
  rintro x y v (rfl|hy) H
  . grind
  . refine (kR (h.bu.only A) (I := fun b => c.au b ∨ b = B.b) (fun b d => .inl d) (fun b d => ?_) 20 H hy).mono ⟨fun _ _ e => (by cases e), fun _ d => d⟩ (fun _ _ => rfl)
    obtain⟨k,F,p,j,s,rfl⟩:=d;rw[Tr.get] at j;cases b:beq k nm with
    | true =>
      simp_all
    | false=>rw[b] at j;cases j
 have u:Own c S.heap B.b:=⟨nm,o,B,A,L,rfl⟩;refine⟨⟨c.f,fun b=>c.au b∨b=B.b⟩,fun _ _=>rfl,fun b d => .inl d,fun b d=>?_,?_,?_⟩
 . grind
 . rintro b ⟨k, F, p, j, s, rfl⟩
   obtain⟨_,q,e3,_⟩:=C k F j;exact⟨k,q,p,e3,s,rfl⟩
 . refine ⟨h.size.trans U.symm, fun t y e => ?_, h.defers.mono (Nat.le_refl _) (fun D _ h1 M => ⟨fun n => ?_, M⟩), ⟨fun b d => ?_, h.bu.bX, fun k b e => ?_, fun k V F W p X e Y f Z d => ?_, fun g cs e => l (h.bu.bR g cs e)⟩, fun k hk => h.fresh k aa⟩
   . obtain ⟨x, g1, g2⟩ := T t y e
     obtain⟨v,j,s⟩:=h.bo t x g1
     grind
   . rcases n with n | rfl
     . grind
     . exact h.bu.xC M u
   . rcases d with d | rfl
     . exact h.bu.bH b d
     . exact h.bu.bX _ _ L
   . obtain ⟨G, q, j, N⟩ := C k b e
     obtain⟨p,O,c2,Q⟩:=h.bu.obj k q j;refine⟨p,O,fun n=>?_,?_⟩
     . rcases n with n | n
       . grind
       . exact G (h.bu.inj _ _ _ _ p B j A O L n)
     . rcases N with rfl | ⟨sz, es, fs, rfl, rfl, z, hfs⟩
       . exact Q.mono rfl l (fun b d=>⟨r.au b d,rfl⟩)
       . obtain ⟨K, t, q, R, a3, a4, a5⟩ := Q
         refine⟨K,t,q,R,a3,Nat.le_trans (mul_le_mul_right sz z) a4,fun i f N=>?_⟩
         grind
   . obtain ⟨_, q, j, _⟩ := C k F e
     obtain⟨_,R,s,_⟩:=C V W Y;exact h.bu.inj _ _ _ _ p X j s f Z d
theorem AC.qa {g:FuncId}{nm i len sz:Nat}{j:List AV}{H:ai}{nx:Nat}{R:AE->ai->Nat->Prop}{o:an}{y:AV}(t:H.get nm=some o)(U:snap (.put nm (some o) .nil) 20 (.az nm i len sz)=some y)
 (h:AC P E g (y::j) (.put nm none H) nx R):AC P E g (.az nm i len sz::j) H nx R:=by
 refine⟨h.1,fun c w M m V D=>?_⟩
 obtain⟨B,J,b2,b3⟩:=m.obj nm o t;have r:c.le ⟨c.f,fun b=>c.au b∨b=B.b⟩:=⟨fun _ _ e=>e,fun _ a => .inl a⟩
 have q:∀{x v},Rel c w x v->Rel ⟨c.f,fun b=>c.au b∨b=B.b⟩ w x v:=fun Z=>Z.mono r (fun _ _=>rfl)
 have N:Own c H B.b:=⟨nm,o,B,t,J,rfl⟩;have d:∀k b,(Tr.put nm none H:ai).get k=some b->k≠nm∧H.get k=some b:=by
  intro k b e;rw[Tr.get] at e;cases a:beq k nm with
  | true=>grind
  | false=>rw[a] at e;exact⟨(fun A=>by simp_all),e⟩
 have K:aN E.bR ⟨c.f,fun b=>c.au b∨b=B.b⟩ w (.put nm none H):=by
  refine⟨fun b a=>?_,m.bX,fun k b e=>?_,fun k k' C o2 s B2 e Q f S a=>m.inj _ _ _ _ s B2 (d _ _ e).2 (d _ _ Q).2 f S a,fun g T e=>q (m.bR g T e)⟩
  . rcases a with a | rfl
    . exact m.bH b a
    . exact m.bX _ _ J
  . obtain ⟨F, n⟩ := d k b e
    obtain⟨s,L,c2,Y⟩:=m.obj k b n;refine⟨s,L,fun z=>?_,Y.mono rfl q (fun b a=>⟨r.au b a,rfl⟩)⟩
    rcases z with z|z
    . grind
    . exact F (m.inj _ _ _ _ s B n t L J z)
 have u:aQ ⟨c.f,fun b=>c.au b∨b=B.b⟩ w (y::j) M:=by
  obtain⟨v,us,rfl,h1,h2⟩:=D.dT;refine .cons ((kR (m.only t) (I:=fun b=>c.au b∨b=B.b) (fun b a => .inl a) (fun b a=>?_) 20 h1 U).mono ⟨fun _ _ e=>(by cases e),fun _ a=>a⟩ (fun _ _=>rfl)) (h2.mono r (fun _ _=>rfl))
  obtain⟨k,C,s,n,A,rfl⟩:=a;rw[Tr.get] at n;cases b:beq k nm with
  | true =>
    simp_all
  | false=>rw[b] at n;cases n
 have p:∀b,Own ⟨c.f,fun b=>c.au b∨b=B.b⟩ (.put nm none H) b->Own c H b:=by
  rintro b ⟨k,C,s,n,A,rfl⟩
  exact⟨k,C,s,(d _ _ n).2,A,rfl⟩
 refine(h.2 _ w M K V u).mono ?_
 rintro e w' ⟨X,H',G,W,l,k2,k3,k4,k5,k6⟩
 refine⟨X,H',G,W,⟨l.f,fun b a=>l.au b (.inl a),l.os,l.tape,l.output,l.size,fun b a O=>l.other b a fun t=>O (p b t),fun b a=>?_,fun b a=>(l.own b a).imp (p b) id⟩,k2,k3,k4,k5,k6⟩
 rcases l.eG b a with(g|rfl)|g|g
 . grind
 . grind
 . grind
 omega
theorem DC.qa {g:FuncId}{nm i len sz:Nat}{a:List AV}{H:ai}{nx:Nat}{R:AE->ai->Nat->Prop}{o:an}{y:AV}(k:H.get nm=some o)(e:snap (.put nm (some o) .nil) 20 (.az nm i len sz)=some y)
 (h:DC P E g (y::a) (.put nm none H) nx R):DC P E g (.az nm i len sz::a) H nx R:=by
 obtain⟨f,j,b,l,d⟩:=h;exact⟨f,j,b,l.qa k e,d⟩
end
end Go.Ago
end
namespace Go.Ago
open List Nat
def gm (R:AV->AV->Prop):List AV->List AV->Prop
 | [],[]=>True
 | x::b,y::c=>R x y∧gm R b c
 | _,_=>False
def fX (x y:AV):Prop:=y=x∨(x = .ah∧∃a,y = .ak a [])
def mP (x y:AV):Prop:=fX x y∨∃b a,x = .agg b∧y = .agg a∧gm fX b a
def n4 (x y:AV):Prop:=mP x y∨∃b a,x = .ao b∧y = .ao a∧gm mP b a
theorem qs {R:AV->AV->Prop}{c:Ctx}{w:World}(d:∀x y v,R x y->Rel c w x v->Rel c w y v):∀{xs ys:List AV} {vs:List Value},gm R xs ys->aQ c w xs vs->aQ c w ys vs
 | [],[],_,_,h=>h
 | x :: xs, y :: ys, vs, a, h => by
   obtain⟨v,g,rfl,f,e⟩:=h.dT;exact .cons (d _ _ _ a.1 f) (qs d a.2 e)
 | [],_::_,_,a,_=>a.elim
 | _::_,[],_,a,_=>a.elim
theorem fX.rel {c:Ctx}{w:World}{x y:AV}{v:Value}(h:fX x y)(a:Rel c w x v):Rel c w y v:=by
 rcases h with rfl|⟨rfl,b,rfl⟩
 . exact a
 cases a;exact .fk _
theorem mP.rel {c:Ctx}{w:World}{x y:AV}{v:Value}(h:mP x y)(e:Rel c w x v):Rel c w y v:=by
 rcases h with h|⟨i,j,rfl,rfl,h⟩
 . exact h.rel e
 cases e with
 | agg f e =>
   have:=qs (fun _ _ _ a b=>fX.rel a b) h ⟨f,e⟩
   exact .agg this.1 this.2
theorem n4.rel {c:Ctx}{w:World}{x y:AV}{v:Value}(h:n4 x y)(e:Rel c w x v):Rel c w y v:=by
 rcases h with h|⟨i,j,rfl,rfl,h⟩
 . exact h.rel e
 cases e with
 | ao f e =>
   have:=qs (fun _ _ _ a b=>mP.rel a b) h ⟨f,e⟩
   exact .ao this.1 this.2
theorem DP.oI {P:Program}{E:Env}{g:FuncId}{args:List AV}{Q f:AE->Prop}(h:DP P E g args Q)(i:∀a,Q a->∃x y,a = .ret x∧n4 x y∧f (.ret y)):DP P E g args f:=by
 obtain⟨a,d,j⟩:=h;obtain⟨x,y,rfl,k,m⟩:=i _ j;refine⟨.ret y,⟨d.1,fun c w t n o p=>(d.2 c w _ n o p).mono ?_⟩,m⟩
 rintro e u ⟨l,a,r,q,s,b,rfl⟩
 refine⟨l,.ret y,r,q,s,?_,rfl⟩;cases e<;>first|exact b.elim|exact k.rel b
theorem fX.r {x:AV}:fX x x := .inl rfl
theorem fX.n {sz:Nat}:fX .ah (.ak sz []) := .inr (ag)
theorem mP.r {x:AV}:mP x x := .inl .r
end Go.Ago
