/-
  Part 13: lemmas, each with its own conditions.
-/
import Derived.ScopeJumps
import Derived.Test.YthaolifcglpkdaaGreatDoorA12
set_option maxRecDepth 100000
set_option maxHeartbeats 0
set_option linter.all false
namespace Go.Ago
theorem zil {P:Program}{E:Env}{g:FuncId}{args:List AV}{H:zah}{nx m:Nat}{R:AE→zah→Nat→Prop}(hm:Nat.ble nx m=true)(h:DC P E g args H m R):DC P E g args H nx R:=by
 obtain⟨ae,H',nx',⟨h0,h1⟩,h2⟩:=h;have hm:=Nat.le_of_ble_eq_true hm;refine⟨ae,H',nx',⟨h0,fun c w vs hw hf hr=>?_⟩,h2⟩
 refine(h1 c w vs hw (fun k hk=>hf k (Nat.le_trans hm hk)) hr).mono fun e w' hh=>?_
 obtain⟨c',H2,n2,a2,g1,g2,g3,g4,g5,g6⟩:=hh;exact⟨c',H2,n2,a2,g1.less hm,g2,Nat.le_trans hm g3,g4,g5,g6⟩
theorem ExtM.from_ {m:Nat}{c c':Ctx}{w w':World}{H H' K:zah}(h:ExtM m c w H c' w' H')(he:∀j,K.get j=H.get j):ExtM m c w K c' w' H':=
 ⟨h.f,h.imm,h.os,h.tape,h.output,h.size,fun b hb hn=>h.other b hb (fun ho=>hn (ho.congr he)),fun b hb=>(h.newimm b hb).ip id (fun e=>e.ip (Own.congr he) id),fun b hb=>(h.own b hb).ip (Own.congr he) id⟩
theorem DC.heap {P:Program}{E:Env}{g:FuncId}{args:List AV}{H K:zah}{nx:Nat}{R:AE→zah→Nat→Prop}(he:∀j,H.get j=K.get j)(h:DC P E g args K nx R):DC P E g args H nx R:=by
 obtain⟨ae,H',nx',⟨h0,h1⟩,h2⟩:=h;refine⟨ae,H',nx',⟨h0,fun c w vs hw hf hr=>?_⟩,h2⟩
 refine(h1 c w vs (hw.congr fun j=>(he j).symm) hf hr).mono fun e w' hh=>?_
 obtain⟨c',H2,n2,a2,g1,g2,g3,g4,g5,g6⟩:=hh;exact⟨c',H2,n2,a2,g1.from_ he,g2,g3,g4,g5,g6⟩
def noGo (K:AX→St→Prop):AX→St→Prop
 | .goto _,_=>False
 | e,S=>K e S
theorem SW.scope {P:Program}{E:Env}{code:Code}{K:AX→St→Prop}{S:St}(h:SW P E false code (noGo K) S):SW P E false (.scope code) K S:=by
 intro r hr m hm c a w hs;obtain rfl:=hr rfl;have h1:=h none (fun _=>rfl) m hm c a w hs
 have hF:FR none=Fence.wide:=rfl;rw[hF] at h1 ⊢;rw[wpIn_wide] at h1 ⊢;refine wp_scope_straight (wp_mono h1 fun e a' w' hq=>?_)
 obtain⟨c',S',ax,g1,g2,g3,g4,g5⟩:=hq;cases e with
 | goto l =>
   cases ax<;>first|exact g5.elim|exact g4.elim
 | _=>cases ax<;>first|exact g5.elim|exact⟨c',S',_,g1,g2,g3,g4,g5⟩|exact g4.elim
def ynt (K:AX→Nat→St→Prop)(e:AX)(n:Nat)(S:St):Prop:=
 match e with
 | .goto _=>False
 | e=>K e n S
theorem DW.scope {P:Program}{E:Env}(hE:EnvOK P E)(hmix:P.follows .mixedOrders=true){code:Code}{K:AX→Nat→St→Prop}{nx:Nat}{S:St}(h:daw3 P E false code (ynt K) nx S):DW P E false nx (.scope code) K S:=by
 obtain⟨ax,nx',S',h1,h2⟩:=zbq hE hmix code h;refine⟨ax,nx',S',SW.scope (h1.mono fun a s hh=>?_),?_⟩
 · obtain ⟨rfl, rfl⟩ := hh
   cases a<;>first|exact h2.elim|exact⟨rfl,rfl⟩
 · cases ax<;>first|exact h2.elim|exact h2
end Go.Ago
section
namespace Go.Ago
def AObj.flatO:AObj→Prop
 | .arr _ es=>(es.all fun e=>e.all zgv)=true
 | .sit _ _=>True
 | .lp _ _ _ _ _=>False
 | .mp es=>(es.all fun p=>zgv p.2)=true
 | .mit _ _=>True
theorem ObjRel.flatO {c c':Ctx}{w:World}{B:Blk}{o:AObj}(hi:c'.imm=c.imm)(h:ObjRel c w B o)(hf:o.flatO):ObjRel c' w B o:=by
 cases o with
 | arr sz es =>
   obtain⟨arr,t,a1,a2,a3,a4,a5⟩:=h;refine⟨arr,t,a1,a2,a3,a4,fun i e he=>⟨(a5 i e he).1,fun j x hx=>?_⟩⟩
   obtain⟨v,e1,e2⟩:=(a5 i e he).2 j x hx;exact⟨v,e1,zjb hi e2 (List.all_eq_true.1 (List.all_eq_true.1 hf e (List.mem_of_getElem? he)) x (List.mem_of_getElem? hx))⟩
 | sit s pos=>exact h
 | lp st pend sl nsl code=>exact hf.elim
 | mp es =>
   obtain⟨a0,mes,clock,a1,a2,a3,f,a4,a5,a6⟩:=h;exact⟨a0,mes,clock,a1,a2,a3,f,a4,a5,fun k x e=>zjb hi (a6 k x e) (List.all_eq_true.1 hf _ e)⟩
 | mit cur es =>
   obtain⟨a0,r,mes,clock,seen,a1,a2,a3⟩:=h;have hb:c'.bare=c.bare:=by unfold Ctx.bare;rw[hi]
   exact⟨a0,r,mes,clock,seen,a1,by rw[hi];exact a2,by rw[hb];exact a3⟩
variable {P:Program} {E:Env}
def FrmH (ρ:Nat→Nat)(H0 H0' H H2:zah):Prop:=
 ∀j o,H2.get j=some o→(H.get j=some o∧∀k o0,H0.get k=some o0→ρ k≠j)∨∃k o0,H0.get k=some o0∧ρ k=j∧H0'.get k=some o∧o.flatO
def FrmE (ρ:Nat→Nat)(nx0:Nat)(ae ae2:AE):Prop:=(ae.flat=true∧ae2=ae)∨∃k i n s,k<nx0∧ae = .ret (.slc k i n s)∧ae2 = .ret (.slc (ρ k) i n s)
theorem zsn {g:FuncId}{args args0:List AV}{H H0:zah}{nx nx0:Nat}{R R0:AE→zah→Nat→Prop}(ρ:Nat→Nat)(h:AC P E g args0 H0 nx0 R0)
 (hr:args=args0.map (AV.r2 ρ))(hl:args0.all (AV.l2 nx0)=true)(hh:∀k o,H0.get k=some o→k<nx0∧H.get (ρ k)=some o∧o.flatO)
 (hi:∀k k' o o',H0.get k=some o→H0.get k'=some o'→ρ k=ρ k'→k=k')
 (hq:∀ae H' nx',R0 ae H' nx'→∃ae2,FrmE ρ nx0 ae ae2∧∃H2,FrmH ρ H0 H' H H2∧R ae2 H2 nx):AC P E g args H nx R:=by
 refine⟨h.1,fun c w vs hw hf hrl=>?_⟩
 have hc0:∀k,k<nx0→(⟨fun k=>if k<nx0 then c.f (ρ k) else none,c.imm⟩:Ctx).f k=c.f (ρ k):=fun k hk=>if_pos hk
 have hbare:(⟨fun k=>if k<nx0 then c.f (ρ k) else none,c.imm⟩:Ctx).bare=c.bare:=rfl
 have hw0:WRel E.glob ⟨fun k=>if k<nx0 then c.f (ρ k) else none,c.imm⟩ w H0:=by
  refine⟨hw.imm_lt,fun k B e=>?_,fun k o e=>?_,fun k k' o o' B B' e e' f f' hb=>?_,fun g cs e=>?_⟩
  · by_cases hk : k < nx0
    · rw[hc0 k hk] at e;exact hw.f_lt _ B e
    · simp[hk] at e
  · obtain ⟨g1, g2, g3⟩ := hh k o e
    obtain⟨B,b1,b2,b3⟩:=hw.obj _ _ g2;exact⟨B,(hc0 k g1).trans b1,b2,ObjRel.flatO (c:=c) rfl b3 g3⟩
  · obtain ⟨g1, g2, _⟩ := hh k o e
    obtain⟨g1',g2',_⟩:=hh k' o' e';rw[hc0 k g1] at f;rw[hc0 k' g1'] at f';exact hi k k' o o' e e' (hw.inj _ _ _ _ B B' g2 g2' f f' hb)
  · have := hw.glob g cs e
    cases this with
    | rptr h1 h2 h3 h4=>exact .rptr h1 h2 h3 h4
 have hr0:RelL ⟨fun k=>if k<nx0 then c.f (ρ k) else none,c.imm⟩ w args0 vs:=by
  subst hr;exact zfy (c:=c) (f:=AV.r2 ρ) (fun y v a b=>zqo (c:=c) (c':=⟨fun k=>if k<nx0 then c.f (ρ k) else none,c.imm⟩) (ρ:=ρ) (n:=nx0) rfl hc0 a b) hl hrl.1 hrl.2
 have hown:∀b,Own ⟨fun k=>if k<nx0 then c.f (ρ k) else none,c.imm⟩ H0 b→∃k o0 B,H0.get k=some o0∧H.get (ρ k)=some o0∧c.f (ρ k)=some B∧B.b=b:=by
  rintro b ⟨k,o,B,hk,hf',rfl⟩
  obtain⟨g1,g2,_⟩:=hh k o hk;rw[hc0 k g1] at hf';exact⟨k,o,B,hk,g2,hf',rfl⟩
 have hown':∀b,Own ⟨fun k=>if k<nx0 then c.f (ρ k) else none,c.imm⟩ H0 b→Own c H b:=fun b hb=>by
  obtain⟨k,o,B,_,h2,h3,h4⟩:=hown b hb;exact⟨ρ k,o,B,h2,h3,h4⟩
 refine(h.2 _ w vs hw0 (fun k hk=>if_neg (Nat.not_lt.2 hk)) hr0).mono ?_
 rintro e w' ⟨c',H',nx',ae,hx,hw',_,_,her,hR⟩
 obtain⟨ae2,hfl,H2,hH2,hR2⟩:=hq ae H' nx' hR;have him:∀b,c.imm b→w'.heap[b]? = w.heap[b]?:=fun b hb=>hx.other b (hw.imm_lt b hb) fun ho=>hw.not_own hb (hown' b ho)
 have hle:c.le ⟨c.f,c'.imm⟩:=⟨fun _ _ e=>e,fun b hb=>hx.imm b hb⟩
 have hrel:∀{x v},Rel c w x v→Rel ⟨c.f,c'.imm⟩ w' x v:=fun hr=>hr.mono hle him
 have hget:∀j o,H2.get j=some o→∃o1,H.get j=some o1:=fun j o e=>by
  rcases hH2 j o e with⟨h1,_⟩|⟨k,o0,h1,rfl,_⟩
  · exact⟨o,h1⟩
  · exact⟨o0,(hh k o0 h1).2.1⟩
 refine⟨⟨c.f,c'.imm⟩,H2,nx,ae2,⟨fun _ _=>rfl,fun b hb=>hx.imm b hb,hx.os,hx.tape,hx.output,hx.size,fun b hb hn=>hx.other b hb fun ho=>hn (hown' b ho),fun b hb=>?_,fun b hb=>?_⟩,
  ⟨hw'.imm_lt,fun k B e=>Nat.lt_of_lt_of_le (hw.f_lt k B e) hx.size,fun j o e=>?_,fun k k' o o' B B' e e' f f' hb=>?_,fun g cs e=>hrel (hw.glob g cs e)⟩,Nat.le_refl _,hf,?_,hR2⟩
 · rcases hx.newimm b hb with g | g | g
   · exact .inl g
   · exact .inr (.inl (hown' b g))
   · exact .inr (.inr g)
 · obtain ⟨j, o, B, e1, e2, rfl⟩ := hb
   obtain⟨o1,e3⟩:=hget j o e1;exact .inl ⟨j,o1,B,e3,e2,rfl⟩
 · rcases hH2 j o e with ⟨h1, h2⟩ | ⟨k, o0, h1, rfl, h2, h3⟩
   · obtain ⟨B, b1, b2, b3⟩ := hw.obj j o h1
     have hno:¬Own ⟨fun k=>if k<nx0 then c.f (ρ k) else none,c.imm⟩ H0 B.b:=fun ho=>by
      obtain⟨k,o0,B',g1,g2,g3,g4⟩:=hown _ ho;exact h2 k o0 g1 (hw.inj _ _ _ _ B' B g2 h1 g3 b1 g4)
     refine⟨B,b1,fun hi=>?_,b3.mono (hx.other _ (hw.f_lt _ _ b1) hno) hrel (fun b hb=>⟨hle.imm b hb,him b hb⟩)⟩
     rcases hx.newimm _ hi with g|g|g
     · exact b2 g
     · exact hno g
     · have:=hw.f_lt _ _ b1;omega
   · obtain ⟨B, b1, b2, b3⟩ := hw'.obj k o h2
     have hk:=(hh k o0 h1).1;exact⟨B,((hx.f k hk).trans (hc0 k hk)).symm.trans b1,b2,ObjRel.flatO (c:=c') rfl b3 h3⟩
 · obtain ⟨o1, e1⟩ := hget k o e
   obtain⟨o2,e2⟩:=hget k' o' e';exact hw.inj _ _ _ _ B B' e1 e2 f f' hb
 · rcases hfl with ⟨h1, rfl⟩ | ⟨k, i, n, s, h1, rfl, rfl⟩
   · exact zja her h1
   · cases e <;> first | exact her.elim | skip
     have her:Rel c' w' (.slc k i n s) _:=her;cases her with
     | slc q1 q2 q3 q4 =>
       rw[hx.f k h1,hc0 k h1] at q1;exact(Rel.slc q1 q2 q3 q4:Rel ⟨c.f,c'.imm⟩ w' (.slc (ρ k) i n s) _)
theorem yfy {g:FuncId}{args args0:List AV}{H H0:zah}{nx nx0:Nat}{R R0:AE→zah→Nat→Prop}(ρ:Nat→Nat)(h:AC P E g args0 H0 nx0 R0)
 (hr:args=args0.map (AV.r2 ρ))(hl:args0.all (AV.l2 nx0)=true)(hh:∀k o,H0.get k=some o→k<nx0∧H.get (ρ k)=some o∧o.flatO)
 (hi:∀k k' o o',H0.get k=some o→H0.get k'=some o'→ρ k=ρ k'→k=k')
 (hq:∀ae H' nx',R0 ae H' nx'→ae.flat=true∧∃H2,FrmH ρ H0 H' H H2∧R ae H2 nx):AC P E g args H nx R:=
 zsn ρ h hr hl hh hi fun ae H' nx' hR=>⟨ae,.inl ⟨(hq ae H' nx' hR).1,rfl⟩,(hq ae H' nx' hR).2⟩
theorem zyd {g:FuncId}{args args0:List AV}{H:zah}{nx k:Nat}{o:AObj}{R:AE→zah→Nat→Prop}{R0:AE→zah→Nat→Prop}(h:DC P E g args0 (.put 0 (some o) .nil) 1 R0)
 (hr:args=args0.map (AV.r2 fun _=>k))(hl:args0.all (AV.l2 1)=true)(hk:H.get k=some o)(ho:o.flatO)
 (hq:∀ae H' nx',R0 ae H' nx'→∃i n s,ae = .ret (.slc 0 i n s)∧∃o',H'.get 0=some o'∧o'.flatO∧R (.ret (.slc k i n s)) (.put k (some o') H) nx):DC P E g args H nx R:=by
 have key:∀j o1,(Tr.put 0 (some o) Tr.nil:zah).get j=some o1→j=0∧o1=o:=by
  intro j o1 e;rw[Tr.get] at e;cases b:Nat.beq j 0 with
  | true=>rw[b] at e;exact⟨Nat.eq_of_beq_eq_true b,by cases e;rfl⟩
  | false=>rw[b] at e;cases e
 obtain⟨ae,H',nx',h1,h2⟩:=h;obtain⟨i,n,s,rfl,o',g2,g3,g4⟩:=hq ae H' nx' h2;refine⟨_,_,nx,zsn (fun _=>k) h1 hr hl (fun j o1 e=>?_) (fun j j' o1 o2 e e' _=>?_) (fun a h m hh=>?_),g4⟩
 · obtain ⟨rfl, rfl⟩ := key j o1 e
   exact⟨Nat.zero_lt_one,hk,ho⟩
 · rw[(key j o1 e).1,(key j' o2 e').1]
 · obtain ⟨rfl, rfl, rfl⟩ := hh
   refine⟨_,.inr ⟨0,i,n,s,Nat.zero_lt_one,rfl,rfl⟩,.put k (some o') H,fun j o1 e=>?_,rfl,rfl,rfl⟩
   rw[Tr.get] at e;cases b:Nat.beq j k with
   | true =>
     rw[b] at e;cases e;exact .inr ⟨0,o,rfl,(Nat.eq_of_beq_eq_true b).symm,g2,g3⟩
   | false =>
     rw[b] at e;refine .inl ⟨e,fun k' o0 _ he=>?_⟩
     subst he;rw[show Nat.beq k k=true from Nat.beq_refl k] at b
     cases b
theorem zwq {g:FuncId}{args args0:List AV}{H H0:zah}{nx nx0:Nat}{R R0:AE→zah→Nat→Prop}(ρ:Nat→Nat)(h:DC P E g args0 H0 nx0 R0)
 (hr:args=args0.map (AV.r2 ρ))(hl:args0.all (AV.l2 nx0)=true)(hh:∀k o,H0.get k=some o→k<nx0∧H.get (ρ k)=some o∧o.flatO)
 (hi:∀k k' o o',H0.get k=some o→H0.get k'=some o'→ρ k=ρ k'→k=k')
 (hq:∀ae H' nx',R0 ae H' nx'→ae.flat=true∧∃H2,FrmH ρ H0 H' H H2∧R ae H2 nx):DC P E g args H nx R:=by
 obtain⟨ae,H',nx',h1,h2⟩:=h;obtain⟨g1,H2,g2,g3⟩:=hq ae H' nx' h2;exact⟨ae,H2,nx,yfy ρ h1 hr hl hh hi (fun a h n hh=>by obtain⟨rfl,rfl,rfl⟩:=hh;exact⟨g1,H2,g2,rfl,rfl,rfl⟩),g3⟩
theorem zeb {g:FuncId}{args args0:List AV}{H:zah}{nx k:Nat}{o:AObj}{R:AE→zah→Nat→Prop}{R0:AE→zah→Nat→Prop}(h:DC P E g args0 (.put 0 (some o) .nil) 1 R0)
 (hr:args=args0.map (AV.r2 fun _=>k))(hl:args0.all (AV.l2 1)=true)(hk:H.get k=some o)(ho:o.flatO)
 (hq:∀ae H' nx',R0 ae H' nx'→ae.flat=true∧∃o',H'.get 0=some o'∧o'.flatO∧R ae (.put k (some o') H) nx):DC P E g args H nx R:=by
 have key:∀j o1,(Tr.put 0 (some o) Tr.nil:zah).get j=some o1→j=0∧o1=o:=by
  intro j o1 e;rw[Tr.get] at e;cases b:Nat.beq j 0 with
  | true=>rw[b] at e;exact⟨Nat.eq_of_beq_eq_true b,by cases e;rfl⟩
  | false=>rw[b] at e;cases e
 refine zwq (fun _=>k) h hr hl (fun j o1 e=>?_) (fun j j' o1 o2 e e' _=>?_) fun ae H' nx' hR=>?_
 · obtain ⟨rfl, rfl⟩ := key j o1 e
   exact⟨Nat.zero_lt_one,hk,ho⟩
 · rw[(key j o1 e).1,(key j' o2 e').1]
 · obtain ⟨g1, o', g2, g3, g4⟩ := hq ae H' nx' hR
   refine⟨g1,_,fun j o1 e=>?_,g4⟩
   rw[Tr.get] at e;cases b:Nat.beq j k with
   | true =>
     rw[b] at e;cases e;exact .inr ⟨0,o,rfl,(Nat.eq_of_beq_eq_true b).symm,g2,g3⟩
   | false =>
     rw[b] at e;refine .inl ⟨e,fun k' o0 _ he=>?_⟩
     subst he;rw[show Nat.beq k k=true from Nat.beq_refl k] at b
     cases b
end Go.Ago
namespace Go.Ago
variable {P:Program} {E:Env}
theorem DC.raise {g:FuncId}{args:List AV}{H:zah}{nx M:Nat}{R R':AE→zah→Nat→Prop}(h:DC P E g args H nx R)(hr:∀ae H' n,R ae H' n→n≤M∧R' ae H' M):DC P E g args H nx R':=by
 obtain⟨ae,H',nx',⟨h0,h1⟩,h2⟩:=h;obtain⟨g1,g2⟩:=hr _ _ _ h2;refine⟨ae,H',M,⟨h0,fun c w vs hw hf hrl=>(h1 c w vs hw hf hrl).mono ?_⟩,g2⟩
 rintro e w' ⟨c',H2,n2,a2,k1,k2,k3,k4,k5,rfl,rfl,rfl⟩
 exact⟨c',_,M,_,k1,k2,Nat.le_trans k3 g1,fun k hk=>k4 k (Nat.le_trans g1 hk),k5,rfl,rfl,rfl⟩
theorem zdy {g:FuncId}{args args0:List AV}{H:zah}{nx k l:Nat}{o p:AObj}{R:AE→zah→Nat→Prop}{R0:AE→zah→Nat→Prop}(h:DC P E g args0 (.put 0 (some o) (.put 1 (some p) .nil)) 2 R0)
 (hr:args=args0.map (AV.r2 fun j=>bif Nat.beq j 0 then k else l))(hl:args0.all (AV.l2 2)=true)(hkl:k≠l)(hk:H.get k=some o)(hl':H.get l=some p)(ho:o.flatO)(hp:p.flatO)
 (hq:∀ae H' nx',R0 ae H' nx'→ae.flat=true∧∃o',H'.get 0=some o'∧H'.get 1=some p∧o'.flatO∧R ae (.put k (some o') H) nx):DC P E g args H nx R:=by
 have key:∀j o1,(Tr.put 0 (some o) (Tr.put 1 (some p) Tr.nil):zah).get j=some o1→(j=0∧o1=o)∨(j=1∧o1=p):=by
  intro j o1 e;rw[Tr.get] at e;cases b:Nat.beq j 0 with
  | true=>rw[b] at e;exact .inl ⟨Nat.eq_of_beq_eq_true b,by cases e;rfl⟩
  | false =>
    rw[b] at e;simp only[cond_false] at e;rw[Tr.get] at e;cases b:Nat.beq j 1 with
    | true=>rw[b] at e;exact .inr ⟨Nat.eq_of_beq_eq_true b,by cases e;rfl⟩
    | false=>rw[b] at e;cases e
 refine zwq (fun j=>bif Nat.beq j 0 then k else l) h hr hl (fun j o1 e=>?_) (fun j j' o1 o2 e e' he=>?_) fun ae H' nx' hR=>?_
 · rcases key j o1 e with ⟨rfl, rfl⟩ | ⟨rfl, rfl⟩
   · exact⟨by decide,hk,ho⟩
   · exact⟨by decide,hl',hp⟩
 · rcases key j o1 e with ⟨rfl, rfl⟩ | ⟨rfl, rfl⟩ <;> rcases key j' o2 e' with ⟨rfl, rfl⟩ | ⟨rfl, rfl⟩
   · rfl
   · exact absurd he hkl
   · exact absurd he.symm hkl
   · rfl
 · obtain ⟨g1, o', g2, g2', g3, g4⟩ := hq ae H' nx' hR
   refine⟨g1,_,fun j o1 e=>?_,g4⟩
   rw[Tr.get] at e;cases b:Nat.beq j k with
   | true =>
     rw[b] at e;cases e;exact .inr ⟨0,o,rfl,(Nat.eq_of_beq_eq_true b).symm,g2,g3⟩
   | false =>
     rw[b] at e;simp only[cond_false] at e
     by_cases hj:j=l
     · subst hj
       rw[hl'] at e;cases e;exact .inr ⟨1,p,rfl,rfl,g2',hp⟩
     · refine .inl ⟨e, fun k' o0 hk' he => ?_⟩
       rcases key k' o0 hk' with⟨rfl,rfl⟩|⟨rfl,rfl⟩
       · subst he
         rw[show Nat.beq (bif Nat.beq 0 0 then k else l) k=true from Nat.beq_refl k] at b
         cases b
       · exact hj he.symm
end Go.Ago
namespace Go.Ago
variable {P:Program} {E:Env}
theorem DC.forget {g:FuncId}{args:List AV}{H:zah}{nx:Nat}{R R':AE→zah→Nat→Prop}(h:DC P E g args H nx R)
 (hr:∀ae H' n,R ae H' n→∃H2 M,n≤M∧(∀k o,H2.get k=some o→H'.get k=some o)∧R' ae H2 M):DC P E g args H nx R':=by
 obtain⟨ae,H',nx',⟨h0,h1⟩,h2⟩:=h;obtain⟨H2,M,g1,g2,g3⟩:=hr _ _ _ h2;refine⟨ae,H2,M,⟨h0,fun c w vs hw hf hrl=>(h1 c w vs hw hf hrl).mono ?_⟩,g3⟩
 rintro e w' ⟨c',H3,n2,a2,k1,k2,k3,k4,k5,rfl,rfl,rfl⟩
 refine⟨c',H2,M,_,⟨k1.f,k1.imm,k1.os,k1.tape,k1.output,k1.size,k1.other,k1.newimm,fun b hb=>?_⟩,⟨k2.imm_lt,k2.f_lt,fun k o e=>k2.obj k o (g2 k o e),fun k k' o o' B B' e e'=>k2.inj k k' o o' B B' (g2 k o e) (g2 k' o' e'),k2.glob⟩,Nat.le_trans k3 g1,fun k hk=>k4 k (Nat.le_trans g1 hk),k5,rfl,rfl,rfl⟩
 obtain⟨k,o,B,e1,e2,rfl⟩:=hb;exact k1.own _ ⟨k,o,B,g2 k o e1,e2,rfl⟩
end Go.Ago
namespace Go.Ago
variable {P:Program} {E:Env}
theorem yc6 {nx K0 sz n:Nat}{es:List (List AV)}{g:FuncId}{args args':List AV}{H:zah}{R:AE→zah→Nat→Prop}(hs:mapO (snap .nil 20) args=some args')
 (h:DC P E g args' .nil 0 (fun ae H' _=>ae = .ret (.slc K0 0 n sz)∧H'.get K0=some (.arr sz es)))(hf:(es.all fun e=>e.all zgv)=true)(hn:Nat.ble (nx+2) 16777216=true)
 (hr:R (.ret (.slc nx 0 n sz)) (.put nx (some (.arr sz es)) H) (nx+1)):DC P E g args H nx R:=by
 obtain⟨ae,H1,nx1,⟨h0,h1⟩,rfl,h3⟩:=h;refine⟨_,_,_,⟨h0,fun c w vs hw hf' hrl=>?_⟩,hr⟩
 have hr':=zds (c':=c.bare) hs hrl (fun x v y=>zdb hw.noown (fun b hb=>hb) (fun b hb=>(zeo hb).elim) 20)
 refine(h1 c.bare w vs hw.empty (fun _ _=>rfl) hr').mono ?_
 rintro e w' ⟨c1,H2,n2,a2,k1,k2,k3,k4,k5,rfl,rfl,rfl⟩
 have hn':=Nat.le_of_ble_eq_true hn;obtain⟨c',B,g1,g2,g3,g4,g5⟩:=hw.adopt (hf' nx (Nat.le_refl _)) (by omega:nx+1<2 ^ 24) k1 k2 h3 (fun i e he j x hx=>List.all_eq_true.1 (List.all_eq_true.1 hf e (List.mem_of_getElem? he)) x (List.mem_of_getElem? hx))
 refine⟨c',_,_,_,g4 nx (Nat.le_refl _),g5,Nat.le_succ _,fun k hk=>(g3 k (by omega)).trans (hf' k (by omega)),?_,rfl,rfl,rfl⟩
 cases e<;>first|exact k5.elim|skip
 have k5:Rel c1 w' (.slc K0 0 n sz) _:=k5;cases k5 with
 | slc q1 q2 q3 q4 =>
   rw[g1] at q1;cases q1;exact .slc g2 q2 q3 q4
end Go.Ago
namespace Go.Ago
variable {P:Program} {E:Env}
theorem DC.anyR {g:FuncId}{args:List AV}{H:zah}{nx:Nat}{R R':AE→zah→Nat→Prop}(h:DC P E g args H nx R)(hr:∀ae H' n,R ae H' n→(∃v,ae = .ret v)∧R' (.ret .any) H' n):DC P E g args H nx R':=by
 obtain⟨ae,H',nx',⟨h0,h1⟩,h2⟩:=h;obtain⟨⟨v,rfl⟩,g3⟩:=hr _ _ _ h2;refine⟨.ret .any,H',nx',⟨h0,fun c w vs hw hf hrl=>(h1 c w vs hw hf hrl).mono ?_⟩,g3⟩
 rintro e w' ⟨c',H3,n2,a2,k1,k2,k3,k4,k5,rfl,rfl,rfl⟩
 refine⟨c',_,_,.ret .any,k1,k2,k3,k4,?_,rfl,rfl,rfl⟩;cases e<;>first|exact k5.elim|exact Rel.any _
end Go.Ago
end
section
namespace Go.Ago
section
variable {P:Program} {E:Env} {c:Ctx} {w:World}
theorem WRel.only {G:zd9}{H:zah}(h:WRel G c w H){nm:Nat}{o:AObj}(ho:H.get nm=some o):WRel G c w (.put nm (some o) .nil):=by
 have key:∀j o1,(Tr.put nm (some o) Tr.nil:zah).get j=some o1→j=nm∧o1=o:=by
  intro j o1 e;rw[Tr.get] at e;cases b:Nat.beq j nm with
  | true=>rw[b] at e;exact⟨Nat.eq_of_beq_eq_true b,by cases e;rfl⟩
  | false=>rw[b] at e;cases e
 refine⟨h.imm_lt,h.f_lt,fun k o1 e=>?_,fun k k' o1 o2 B B' e e' _ _ _=>?_,h.glob⟩
 · obtain ⟨rfl, rfl⟩ := key k o1 e
   exact h.obj _ _ ho
 · rw[(key k o1 e).1,(key k' o2 e').1]
def FrzC (nm:Nat)(o:AObj)(x y:AV):Prop:=y=x∨snap (.put nm (some o) .nil) 20 x=some y
def FrzO (nm:Nat)(o:AObj)(a b:AObj):Prop:=
 b=a∨∃sz es fs,a = .arr sz es∧b = .arr sz fs∧fs.length≤es.length∧∀(i:Nat) f,fs[i]? = some f→∃e,es[i]? = some e∧f.length=e.length∧∀(j:Nat) y,f[j]? = some y→∃x,e[j]? = some x∧FrzC nm o x y
theorem WkM.freeze {m:Nat}{S S':St}(nm:Nat)(o:AObj)(ho:S.heap.get nm=some o)(hn:S'.nsl=S.nsl)(hx:S'.next=S.next)(hs:∀t y,S'.slots.get t=some y→∃x,S.slots.get t=some x∧FrzC nm o x y)
 (hh:∀k b,S'.heap.get k=some b→k≠nm∧∃a,S.heap.get k=some a∧FrzO nm o a b):WkM P E m S S':=by
 intro c a w h;obtain⟨B,b1,b2,b3⟩:=h.wrel.obj nm o ho;have hle:c.le ⟨c.f,fun b=>c.imm b∨b=B.b⟩:=⟨fun _ _ e=>e,fun _ hb => .inl hb⟩
 have hrel:∀{x v},Rel c w x v→Rel ⟨c.f,fun b=>c.imm b∨b=B.b⟩ w x v:=fun hr=>hr.mono hle (fun _ _=>rfl)
 have hcell:∀{x y v},FrzC nm o x y→Rel c w x v→Rel ⟨c.f,fun b=>c.imm b∨b=B.b⟩ w y v:=by
  rintro x y v (rfl|hy) hr
  · exact hrel hr
  · refine (zdb (h.wrel.only ho) (I := fun b => c.imm b ∨ b = B.b) (fun b hb => .inl hb) (fun b hb => ?_) 20 hr hy).mono ⟨fun _ _ e => (by cases e), fun _ hb => hb⟩ (fun _ _ => rfl)
    obtain⟨k,o1,B1,e1,e2,rfl⟩:=hb;rw[Tr.get] at e1;cases b:Nat.beq k nm with
    | true =>
      have:=Nat.eq_of_beq_eq_true b;subst this;rw[b1] at e2;cases e2;exact .inr rfl
    | false=>rw[b] at e1;cases e1
 have hown:Own c S.heap B.b:=⟨nm,o,B,ho,b1,rfl⟩;refine⟨⟨c.f,fun b=>c.imm b∨b=B.b⟩,fun _ _=>rfl,fun b hb => .inl hb,fun b hb=>?_,?_,?_⟩
 · rcases hb with hb | rfl
   · exact .inl hb
   · exact .inr hown
 · rintro b ⟨k, o1, B1, e1, e2, rfl⟩
   obtain⟨_,a1,e3,_⟩:=hh k o1 e1;exact⟨k,a1,B1,e3,e2,rfl⟩
 · refine ⟨h.size.trans hn.symm, fun t y e => ?_, h.defers.mono (Nat.le_refl _) (fun D _ h1 h2 => ⟨fun hi => ?_, h2⟩), ⟨fun b hb => ?_, h.wrel.f_lt, fun k b e => ?_, fun k k' o1 o2 B1 B2 e e' f f' hb => ?_, fun g cs e => hrel (h.wrel.glob g cs e)⟩, fun k hk => h.fresh k (by rw [hx] at hk; exact hk)⟩
   · obtain ⟨x, g1, g2⟩ := hs t y e
     obtain⟨v,e1,e2⟩:=h.slots t x g1;exact⟨v,e1,hcell g2 e2⟩
   · rcases hi with hi | rfl
     · exact h1 hi
     · exact h.wrel.not_own_def h2 hown
   · rcases hb with hb | rfl
     · exact h.wrel.imm_lt b hb
     · exact h.wrel.f_lt _ _ b1
   · obtain ⟨hne, a1, e1, hf⟩ := hh k b e
     obtain⟨B1,c1,c2,c3⟩:=h.wrel.obj k a1 e1;refine⟨B1,c1,fun hi=>?_,?_⟩
     · rcases hi with hi | hi
       · exact c2 hi
       · exact hne (h.wrel.inj _ _ _ _ B1 B e1 ho c1 b1 hi)
     · rcases hf with rfl | ⟨sz, es, fs, rfl, rfl, hlen, hfs⟩
       · exact c3.mono rfl hrel (fun b hb=>⟨hle.imm b hb,rfl⟩)
       · obtain ⟨arr, t, a1, a2, a3, a4, a5⟩ := c3
         refine⟨arr,t,a1,a2,a3,Nat.le_trans (Nat.mul_le_mul_right sz hlen) a4,fun i f hf=>?_⟩
         obtain⟨e0,g1,g2,g3⟩:=hfs i f hf;refine⟨g2.trans (a5 i e0 g1).1,fun j y hy=>?_⟩
         obtain⟨x,x1,x2⟩:=g3 j y hy;obtain⟨v,v1,v2⟩:=(a5 i e0 g1).2 j x x1;exact⟨v,v1,hcell x2 v2⟩
   · obtain ⟨_, a1, e1, _⟩ := hh k o1 e
     obtain⟨_,a2,e2,_⟩:=hh k' o2 e';exact h.wrel.inj _ _ _ _ B1 B2 e1 e2 f f' hb
theorem AC.frzA {g:FuncId}{nm i len sz:Nat}{rest:List AV}{H:zah}{nx:Nat}{R:AE→zah→Nat→Prop}{o:AObj}{y:AV}(ho:H.get nm=some o)(hx:snap (.put nm (some o) .nil) 20 (.slc nm i len sz)=some y)
 (h:AC P E g (y::rest) (.put nm none H) nx R):AC P E g (.slc nm i len sz::rest) H nx R:=by
 refine⟨h.1,fun c w vs hw hf hrl=>?_⟩
 obtain⟨B,b1,b2,b3⟩:=hw.obj nm o ho;have hle:c.le ⟨c.f,fun b=>c.imm b∨b=B.b⟩:=⟨fun _ _ e=>e,fun _ hb => .inl hb⟩
 have hrel:∀{x v},Rel c w x v→Rel ⟨c.f,fun b=>c.imm b∨b=B.b⟩ w x v:=fun hr=>hr.mono hle (fun _ _=>rfl)
 have hown:Own c H B.b:=⟨nm,o,B,ho,b1,rfl⟩;have hget:∀k b,(Tr.put nm none H:zah).get k=some b→k≠nm∧H.get k=some b:=by
  intro k b e;rw[Tr.get] at e;cases hb:Nat.beq k nm with
  | true=>rw[hb] at e;cases e
  | false=>rw[hb] at e;exact⟨(fun e2=>by subst e2;rw[show Nat.beq k k=true from Nat.beq_refl k] at hb;cases hb),e⟩
 have hw2:WRel E.glob ⟨c.f,fun b=>c.imm b∨b=B.b⟩ w (.put nm none H):=by
  refine⟨fun b hb=>?_,hw.f_lt,fun k b e=>?_,fun k k' o1 o2 B1 B2 e e' f f' hb=>hw.inj _ _ _ _ B1 B2 (hget _ _ e).2 (hget _ _ e').2 f f' hb,fun g cs e=>hrel (hw.glob g cs e)⟩
  · rcases hb with hb | rfl
    · exact hw.imm_lt b hb
    · exact hw.f_lt _ _ b1
  · obtain ⟨hne, e1⟩ := hget k b e
    obtain⟨B1,c1,c2,c3⟩:=hw.obj k b e1;refine⟨B1,c1,fun hi=>?_,c3.mono rfl hrel (fun b hb=>⟨hle.imm b hb,rfl⟩)⟩
    rcases hi with hi|hi
    · exact c2 hi
    · exact hne (hw.inj _ _ _ _ B1 B e1 ho c1 b1 hi)
 have hrl2:RelL ⟨c.f,fun b=>c.imm b∨b=B.b⟩ w (y::rest) vs:=by
  obtain⟨v,us,rfl,h1,h2⟩:=hrl.inv_cons;refine .cons ((zdb (hw.only ho) (I:=fun b=>c.imm b∨b=B.b) (fun b hb => .inl hb) (fun b hb=>?_) 20 h1 hx).mono ⟨fun _ _ e=>(by cases e),fun _ hb=>hb⟩ (fun _ _=>rfl)) (h2.mono hle (fun _ _=>rfl))
  obtain⟨k,o1,B1,e1,e2,rfl⟩:=hb;rw[Tr.get] at e1;cases b:Nat.beq k nm with
  | true =>
    have:=Nat.eq_of_beq_eq_true b;subst this;rw[b1] at e2;cases e2;exact .inr rfl
  | false=>rw[b] at e1;cases e1
 have hsub:∀b,Own ⟨c.f,fun b=>c.imm b∨b=B.b⟩ (.put nm none H) b→Own c H b:=by
  rintro b ⟨k,o1,B1,e1,e2,rfl⟩
  exact⟨k,o1,B1,(hget _ _ e1).2,e2,rfl⟩
 refine(h.2 _ w vs hw2 hf hrl2).mono ?_
 rintro e w' ⟨c',H',nx',ae,k1,k2,k3,k4,k5,k6⟩
 refine⟨c',H',nx',ae,⟨k1.f,fun b hb=>k1.imm b (.inl hb),k1.os,k1.tape,k1.output,k1.size,fun b hb hn=>k1.other b hb fun ho=>hn (hsub b ho),fun b hb=>?_,fun b hb=>(k1.own b hb).ip (hsub b) id⟩,k2,k3,k4,k5,k6⟩
 rcases k1.newimm b hb with(g|rfl)|g|g
 · exact .inl g
 · exact .inr (.inl hown)
 · exact .inr (.inl (hsub b g))
 · exact .inr (.inr g)
theorem DC.frzA {g:FuncId}{nm i len sz:Nat}{rest:List AV}{H:zah}{nx:Nat}{R:AE→zah→Nat→Prop}{o:AObj}{y:AV}(ho:H.get nm=some o)(hx:snap (.put nm (some o) .nil) 20 (.slc nm i len sz)=some y)
 (h:DC P E g (y::rest) (.put nm none H) nx R):DC P E g (.slc nm i len sz::rest) H nx R:=by
 obtain⟨ae,H',nx',h1,h2⟩:=h;exact⟨ae,H',nx',h1.frzA ho hx,h2⟩
end
end Go.Ago
end
section
namespace Go.Ago
variable {P:Program} {E:Env} {rr:Bool}
theorem ypj {code:Code}{Q:AX→St→Prop}{S S':St}(hn:S.next≤S'.next)(hwk:WkM P E S.next S S')(h:SW P E rr code Q S'):SW P E rr code Q S:=by
 intro r hr m hm c a w hs;obtain⟨c',e1,e2,e3,e4,e5⟩:=hwk c a w hs;have hx:ExtA m c a w S.heap c' a w S'.heap:=(ExtA.refl m c a w S.heap).thenM ⟨fun k hk=>e1 k (by omega),e2,rfl,rfl,rfl,Nat.le_refl _,fun _ _ _=>rfl,fun b hb=>(e3 b hb).ip id .inl,fun b hb => .inl (e4 b hb)⟩ rfl
 refine wpIn_mono (h r hr m (Nat.le_trans hm hn) c' a w e5) ?_
 rintro e a2 w2 ⟨c2,S2,ax,g1,g2,g3,g4,g5⟩
 exact⟨c2,S2,ax,hx.trans g1,Nat.le_trans hn g2,g3,g4,g5⟩
theorem DW.wk {code:Code}{K:AX→Nat→St→Prop}{nx:Nat}{S S':St}(hwk:WkM P E nx (S.at_ nx) (S'.at_ nx))(h:DW P E rr nx code K S'):DW P E rr nx code K S:=by
 obtain⟨ax,nx',S2,h1,h2⟩:=h;exact⟨ax,nx',S2,ypj (S:=S.at_ nx) (S':=S'.at_ nx) (Nat.le_refl nx) hwk h1,h2⟩
def frzS (nm:Nat)(o:AObj)(S:St):List (Nat×AV)→Prop
 | []=>True
 | (t,y)::l=>(∃x,S.slots.get t=some x∧FrzC nm o x y)∧frzS nm o S l
def frzH (nm:Nat)(o:AObj)(S:St):List (Nat×AObj)→Prop
 | []=>True
 | (k,b)::l=>(k≠nm∧∃a,S.heap.get k=some a∧FrzO nm o a b)∧frzH nm o S l
theorem ya3 {nm:Nat}{o:AObj}{S:St}:∀{l:List (Nat×AV)},frzS nm o S l→∀t y,(t,y)∈l→∃x,S.slots.get t=some x∧FrzC nm o x y
 | [],_,_,_,h=>by cases h
 | (t', y') :: l, hf, t, y, h => by
   rcases List.mem_cons.1 h with h|h
   · cases h;exact hf.1
   · exact ya3 hf.2 t y h
theorem ya4 {nm:Nat}{o:AObj}{S:St}:∀{l:List (Nat×AObj)},frzH nm o S l→∀k b,(k,b)∈l→k≠nm∧∃a,S.heap.get k=some a∧FrzO nm o a b
 | [],_,_,_,h=>by cases h
 | (t', y') :: l, hf, t, y, h => by
   rcases List.mem_cons.1 h with h|h
   · cases h;exact hf.1
   · exact ya4 hf.2 t y h
theorem zoq (nm:Nat)(o:AObj)(sl:List (Nat×AV))(hl:List (Nat×AObj)){code:Code}{K:AX→Nat→St→Prop}{nx:Nat}{S:St}(ho:S.heap.get nm=some o)(h1:frzS nm o S sl)(h2:frzH nm o S hl)
 (h:DW P E rr nx code K ⟨ofS sl,S.nsl,ofH hl,0⟩):DW P E rr nx code K S:=
 DW.wk (S':=⟨ofS sl,S.nsl,ofH hl,0⟩) (WkM.freeze (S:=S.at_ nx) nm o ho rfl rfl (fun t y e=>ya3 h1 t y (zjw e)) (fun k b e=>ya4 h2 k b (zia e))) h
end Go.Ago
end
section
namespace Go.Ago
variable {P:Program} {E:Env} {rr:Bool}
def zee (l:List (Int×AV))(k:Int):List (Int×AV):=l.filter fun p=>!decide (p.1=k)
theorem mem_lessK {l:List (Int×AV)}{k j:Int}{x:AV}:(j,x)∈zee l k↔(j,x)∈l∧j≠k:=by simp[zee]
theorem zqi {l:List (Int×AV)}{k:Int}(h:RisK l):RisK (zee l k):=List.Pairwise.sublist (List.filter_sublist.map _) h
theorem yek {l:List (Int×AV)}{k:Int}{x:AV}(h:(k,x)∈l):(zee l k).length<l.length:=
 List.length_filter_lt_length_iff_exists.2 ⟨(k,x),h,by simp⟩
section
variable {G:zd9} {c:Ctx} {w:World} {H:zah}
theorem yeb (hw:WRel G c w H){it:Nat}{cur:Option (Int×AV)}{l:List (Int×AV)}{B:Blk}(hf:c.f it=some B)(hit:H.get it=some (.mit cur l))(h24:it+1<2 ^ 24)(ty:TypeId) :
 B.s = 0 ∧ ((l=[]∧(Instr.next (.pointer (some ⟨B.b,0,none⟩)) false ty).run P w = .ok (.tuple #[.bool false]) w) ∨
 ∃k x v w',(k,x)∈l∧(Instr.next (.pointer (some ⟨B.b,0,none⟩)) false ty).run P w = .ok (.tuple #[.bool true,.int .i64 k,v]) w' ∧
  Ext c w H c w' (H.set 24 it (some (.mit (some (k,x)) (zee l k))))∧WRel G c w' (H.set 24 it (some (.mit (some (k,x)) (zee l k))))∧Rel c w' x v):=by
 obtain⟨B',hf',hi,⟨s0,z0⟩,m,mes,clock,seen,a1,a2,a3,a4,a5,⟨f,a6,a7,a8⟩,_⟩:=hw.obj it _ hit;rw[hf] at hf';cases hf';refine⟨s0,?_⟩;have hleft:(leftOf mes seen).toList=mes.toList.filter fun e=>!seen.contains e.born:=by unfold leftOf;simp
 rcases run_next_at (P:=P) w ty B.b m clock clock seen mes clock a1 a3 a4.lt (Nat.le_refl _) with⟨h1,h2⟩|⟨e,he,w1,hw1,hrun⟩
 · refine .inl ⟨?_, h2⟩
   have:(leftOf mes seen).toList=[]:=List.eq_nil_of_length_eq_zero (by simpa using h1)
   rw[hleft] at this;refine List.eq_nil_iff_forall_not_mem.2 fun p hp=>?_
   obtain⟨k,x⟩:=p;have h3:=(a6 k x hp).1;rw[this] at h3;cases h3
 · rw [hleft] at he
   obtain⟨k,x,hkx,rfl⟩:=a7 e he;have hkey:=(a6 k x hkx).2;have hmes:f k∈mes.toList:=(List.mem_filter.1 he).1;have hwr:WRel G c w1 H∧Ext c w H c w1 H:=by
    rcases hw1 with rfl|rfl
    · exact⟨hw,Ext.refl c w1 H⟩
    · exact⟨hw.drew,Ext.refl_drew c w H⟩
   obtain⟨hwr,hext⟩:=hwr;obtain ⟨e1, e2⟩ := hwr.setO hit hf h24 (.mapIter (some m) clock (seen.push (f k).born) clock) (.mit (some (k, x)) (zee l k)) (fun w' hh hrel himm=>by
    have hm2:w'.heap[m]? = some (.map mes clock):=(himm m a2).trans ((hext.imm hw m a2).trans a3);have hb2:∀y v,Rel c.bare w y v→Rel c.bare w' y v:=fun y v h=>(h.mono (c':=c.bare) (w':=w1) (.refl _) fun b hb=>hext.imm hw b hb).mono (.refl _) fun b hb=>himm b hb
    refine⟨⟨s0,z0⟩,m,mes,clock,seen.push (f k).born,hh,a2,hm2,a4,zqi a5,⟨f,fun j y hj=>?_,fun e he=>?_,fun j y hj=>hb2 _ _ (a8 j y (mem_lessK.1 hj).1)⟩,fun j y hj=>?_⟩
    · obtain ⟨g1, g2⟩ := mem_lessK.1 hj
      obtain⟨q1,q2⟩:=a6 j y g1;refine⟨List.mem_filter.2 ⟨(List.mem_filter.1 q1).1,?_⟩,q2⟩;have q3:=(List.mem_filter.1 q1).2;simp only[Array.contains_push,Bool.not_or,Bool.and_eq_true];refine⟨q3,?_⟩;simp only[Bool.not_eq_true',beq_eq_false_iff_ne,ne_eq];intro hborn
      
      have huniq:f j=f k:=by
       obtain⟨p,hp⟩:=List.mem_iff_getElem?.1 (List.mem_filter.1 q1).1;obtain⟨q,hq⟩:=List.mem_iff_getElem?.1 hmes;have hpl:p<(mes.toList.map (·.born)).length:=by rw[List.length_map];exact(List.getElem?_eq_some_iff.1 hp).1
       have hpq:p=q:=(List.getElem?_inj hpl a4.nd).1 (by rw[List.getElem?_map,List.getElem?_map,hp,hq,Option.map_some,Option.map_some,hborn])
       subst hpq;rw[hp] at hq
       injection hq
      rw[huniq,hkey] at q2
      injection q2 with _ q2
      exact g2 q2.symm
    · obtain ⟨g1, g2⟩ := List.mem_filter.1 he
      simp only[Array.contains_push,Bool.not_or,Bool.and_eq_true,Bool.not_eq_true',beq_eq_false_iff_ne,ne_eq] at g2;obtain⟨j,y,hj,rfl⟩:=a7 e (List.mem_filter.2 ⟨g1,by simpa using g2.1⟩)
      refine⟨j,y,mem_lessK.2 ⟨hj,?_⟩,rfl⟩
      rintro rfl
      exact g2.2 rfl
    · cases hj
      exact⟨seen,f k,rfl,hmes,hkey,hb2 _ _ (a8 k x hkx)⟩)
   refine .inr ⟨k,x,(f k).val,_,hkx,?_,hext.trans e1,e2,?_⟩
   · rw[hrun,hkey];rfl
   · exact(hext.trans e1).rel hw (a8 k x hkx).of_bare
end
theorem zyb (hE:EnvOK P E){id:Nat}{ops:Array Oper}{o1 o2:Oper}{t a b:Tmp}(hops:ops=#[o1,o2])(h1:o1.op = .next (.tmp t) false)(g1:o1.guard=none)(d1:o1.dst=some a)(h2:o2.op = .extract (.tmp a) 0)(g2:o2.guard=none)(d2:o2.dst=some b)
 {S:St}{K:AX→St→Prop}{it:Nat}{cur:Option (Int×AV)}{l:List (Int×AV)}(ha:zbw S (some a)=true)(hb:zbw S (some b)=true)(hev:S.slots.get t=some (.ptr it 0 0))(hit:S.heap.get it=some (.mit cur l))(h24:Nat.ble (it+2) 16777216=true)
 (k0:l=[]→K .normal ⟨.put b (some (.bool false)) (.put a (some (.tup [.bool false])) S.slots),S.nsl,S.heap,S.next+2⟩)
 (k1:∀k x,(k,x)∈l→K .normal ⟨.put b (some (.bool true)) (.put a (some (.tup [.bool true,.int .i64 k,x])) S.slots),S.nsl,.put it (some (.mit (some (k,x)) (zee l k))) S.heap,S.next+2⟩):SW P E rr (.region id ops false) K S:=by
 intro r hr m hm c a0 w hs;refine wpIn_region ?_;subst hops;have h24':it+1<2 ^ 24:=by have:=Nat.le_of_ble_eq_true h24;omega
 have hsz:(#[o1,o2]:Array Oper).size=2:=rfl;have hs2:Sim P E c { S with next:=S.next+2 } a0 w:=⟨hs.size,hs.slots,hs.defers,hs.wrel,fun k hk=>hs.fresh k (by have:S.next+2≤k:=hk;omega)⟩
 have hfree:∀k,S.next≤k→k<S.next+2→c.f k=none:=fun k h1 _=>hs.fresh k h1
 show wpOpsIn (FR r) 0 P #[o1,o2] (QS P E m c a0 w S K) (List.range 2) a0 w;rw[show List.range 2=[0,1] from rfl]
 simp only[wpOpsIn];rw[show(#[o1,o2]:Array Oper)[0]? = some o1 from rfl]
 have hwant:Region.wanted o1 (yielded #[o1,o2] a0.tmps)=true:=by simp[Region.wanted,g1]
 dsimp only;rw[if_pos hwant]
 
 have rest:∀(c':Ctx) (S':St) (a':Act) (w':World) (bb:Bool) (vs:List AV),Mid P E m c a0 w S (S.next+1) (S.next+2) c' S' a' w'→S'.slots.get a=some (.tup (.bool bb::vs))→zbw S' (some b)=true →
  K .normal ⟨.put b (some (.bool bb)) S'.slots,S'.nsl,S'.heap,S'.next⟩→wpOpsIn (FR r) 0 P #[o1,o2] (QS P E m c a0 w S K) [1] a' w':=by
  intro c' S' a' w' bb vs hmid hsl hdb hk;have := zij (r := r) (m := m) (c0 := c) (a0 := a0) (w0 := w) (S0 := S) (K := K) hE (ops := #[o1, o2]) [o2] 1 S.next c' S' a' w' rfl hmid (by
   show gate [o1,o2] S' o2.guard _ _;rw[g2];show aop P E (S.next+1) o2 S' _ K;refine⟨by rw[d2];exact hdb,?_⟩
   rw[h2];show(zhb (S'.ev E (.tmp a)) 0).holds S'.heap _ _;rw[show S'.ev E (.tmp a) = .tup (.bool bb::vs) by show(match S'.slots.get a with|some x=>x|none => .any)=_;rw[hsl]]
   show K .normal (S'.put o2.dst (.bool bb) S'.heap S'.next);rw[d2];exact hk)
  exact this
 have hop1:∀res w',(Instr.next (a0.eval (.tmp t)) false o1.type).run P w = .ok res w'→(execOp a0.eval o1).run P w = .ok (.value res) w':=by
  intro res w' h;unfold execOp;rw[h1];simp only[Sem.run_bind,h,Result.andThen_ok,Sem.run_pure]
 have hp:=hs.ev (.tmp t);rw[show S.ev E (.tmp t) = .ptr it 0 0 by show(match S.slots.get t with|some x=>x|none => .any)=_;rw[hev]] at hp
 generalize hv:a0.eval (.tmp t)=pv at hp hop1
 cases hp with
 | @ptr _ _ _ _ _ B hf =>
   obtain⟨s0,hnext⟩:=yeb (P:=P) hs.wrel hf hit h24' o1.type;have hpp:(⟨B.b,B.s+(0 * B.sz+0),none⟩:Addr)=⟨B.b,0,none⟩:=by rw[s0];simp
   rw[hpp] at hop1;have hnd:∀c,o1.op≠.defer c:=fun c e=>by rw[h1] at e;cases e
   rcases hnext with⟨rfl,hrun⟩|⟨k,x,v,w',hkx,hrun,hext,hw',hrel⟩
   · have hrun := hop1 _ _ hrun
     refine zp2 hnd (fun row args w'' e=>by rw[hrun] at e;cases e) ?_
     unfold Oper.wp;rw[hrun];have hput:Sim P E c ({ S with next:=S.next+2 }.put o1.dst (.tup [.bool false]) S.heap (S.next+2)) (a0.put o1.dst (.tuple #[.bool false])) w:=
      hs2.put hs2.defers (fun h=>h) hs2.wrel hs2.fresh (by rw[d1];exact ha) (Rel.tup (vs:=[.bool false]) rfl (RelL.cons (.bool false) .nil).2)
     refine rest c ({ S with next:=S.next+2 }.put o1.dst (.tup [.bool false]) S.heap (S.next+2)) _ w false [] ⟨(ExtA.refl m c a0 w S.heap).thenM (ExtM.refl ..) (zco ..),Nat.le_add_right _ _,Nat.le_refl _,by omega,hput,fun k h1 h2=>hfree k (by omega) h2⟩ ?_ hb ?_
     · rw[d1];show(Tr.put a (some _) S.slots).get a=_;rw[Tr.get,show Nat.beq a a=true from Nat.beq_refl a];rfl
     · have:=k0 rfl;rw[d1];exact this
   · have hrun := hop1 _ _ hrun
     refine zp2 hnd (fun row args w'' e=>by rw[hrun] at e;cases e) ?_
     unfold Oper.wp;rw[hrun];have hx:∀{x v},Rel c w x v→Rel c w' x v:=fun hr=>hext.rel hs.wrel hr
     have hput:Sim P E c ({ S with next:=S.next+2 }.put o1.dst (.tup [.bool true,.int .i64 k,x]) (S.heap.set 24 it (some (.mit (some (k,x)) (zee l k)))) (S.next+2)) (a0.put o1.dst (.tuple #[.bool true,.int .i64 k,v])) w':=
      hs2.put (hext.defs hs.wrel hs.defers) hx hw' hs2.fresh (by rw[d1];exact ha) (Rel.tup (vs:=[.bool true,.int .i64 k,v]) rfl (RelL.cons (.bool true) (.cons (.int .i64 k) (.cons hrel .nil))).2)
     refine rest c ({ S with next:=S.next+2 }.put o1.dst (.tup [.bool true,.int .i64 k,x]) (S.heap.set 24 it (some (.mit (some (k,x)) (zee l k)))) (S.next+2)) _ w' true [.int .i64 k,x] ⟨(ExtA.refl m c a0 w S.heap).thenM (hext.toM fun _ _=>rfl) (zco ..),Nat.le_add_right _ _,Nat.le_refl _,by omega,hput,fun k h1 h2=>hfree k (by omega) h2⟩ ?_ hb ?_
     · rw[d1];show(Tr.put a (some _) S.slots).get a=_;rw[Tr.get,show Nat.beq a a=true from Nat.beq_refl a];rfl
     · have:=k1 k x hkx;rw[d1];exact this
theorem zt3 {m nx:Nat}{S:St}{it:Nat}{cur:Option (Int×AV)}{l:List (Int×AV)}(hit:S.heap.get it=some (.mit cur l)):WkM P E m (S.at_ nx) ((⟨S.slots,S.nsl,.put it (some (.mit none l)) S.heap,0⟩:St).at_ nx):=by
 intro c a w h;have hget:∀k o,(Tr.put it (some (.mit none l)) S.heap:zah).get k=some o→(k=it∧o = .mit none l)∨(k≠it∧S.heap.get k=some o):=by
  intro k o e;rw[Tr.get] at e;cases hb:Nat.beq k it with
  | true=>rw[hb] at e;exact .inl ⟨Nat.eq_of_beq_eq_true hb,by simpa using e.symm⟩
  | false=>rw[hb] at e;exact .inr ⟨(fun e2=>by subst e2;rw[Nat.beq_refl] at hb;cases hb),e⟩
 have hany:∀k o,(Tr.put it (some (.mit none l)) S.heap:zah).get k=some o→∃o',S.heap.get k=some o':=fun k o e=>by
  rcases hget k o e with⟨rfl,_⟩|⟨_,e⟩
  · exact⟨_,hit⟩
  · exact⟨o,e⟩
 refine⟨c,fun _ _=>rfl,fun _ h=>h,fun _ h => .inl h,?_,h.size,h.slots,h.defers,⟨h.wrel.imm_lt,h.wrel.f_lt,fun k o e=>?_,fun k k' o o' B B' e e'=>?_,h.wrel.glob⟩,h.fresh⟩
 · rintro b ⟨k, o, B, e, f, rfl⟩
   obtain⟨o',e'⟩:=hany k o e;exact⟨k,o',B,e',f,rfl⟩
 · rcases hget k o e with ⟨rfl, rfl⟩ | ⟨_, e⟩
   · obtain ⟨B, b1, b2, b0, r, mes, clock, seen, a1, a2, a3, a4, a5, a6, _⟩ := h.wrel.obj k _ hit
     exact⟨B,b1,b2,b0,r,mes,clock,seen,a1,a2,a3,a4,a5,a6,fun k x e=>by cases e⟩
   · exact h.wrel.obj k o e
 · obtain ⟨o1, e1⟩ := hany k o e
   obtain⟨o2,e2⟩:=hany k' o' e';exact h.wrel.inj k k' o1 o2 B B' e1 e2
theorem WkM.transM {m:Nat}{S S' S'':St}(h1:WkM P E m S S')(h2:WkM P E m S' S''):WkM P E m S S'':=by
 intro c a w h;obtain⟨c1,a1,a2,a3,a4,a5⟩:=h1 c a w h;obtain⟨c2,b1,b2,b3,b4,b5⟩:=h2 c1 a w a5;exact⟨c2,fun k hk=>(b1 k hk).trans (a1 k hk),fun b hb=>b2 b (a2 b hb),fun b hb=>(b3 b hb).elim (fun h=>a3 b h) (fun h => .inr (a4 b h)),fun b hb=>a4 b (b4 b hb),b5⟩
theorem yfu (hE:EnvOK P E){es:List (Int×AV)}(hes:RisK es)(L:List (Int×AV)→St)(nl:Nat){id:Nat}{ops:Array Oper}{o1 o2:Oper}{t a b:Tmp}(hops:ops=#[o1,o2])(h1:o1.op = .next (.tmp t) false)(g1:o1.guard=none)(d1:o1.dst=some a)(h2:o2.op = .extract (.tmp a) 0)(g2:o2.guard=none)(d2:o2.dst=some b)
 {rest:Code}{K:AX→Nat→St→Prop}{nx it:Nat}{S:St}(h24:Nat.ble (it+2) 16777216=true)(hn:nx≤nl)(h0:WkM P E nx (S.at_ nx) ((L es).at_ nl))
 (hL:∀l,(L l).slots.get t=some (.ptr it 0 0)∧(L l).heap.get it=some (.mit none l)∧zbw (L l) (some a)=true∧zbw (L l) (some b)=true)
 (hend:DW P E rr (nl+2) rest (fun e nx' S'=>match e with | .normal=>False|e=>K e nx' S') ⟨.put b (some (.bool false)) (.put a (some (.tup [.bool false])) (L []).slots),(L []).nsl,(L []).heap,0⟩)
 (hrd:∀l,RisK l→(∀p∈l,p∈es)→∀k x,(k,x)∈l→DW P E rr (nl+2) rest (fun e nx' S'=>e = .normal∧WkM P E nx (S'.at_ nx') ((L (zee l k)).at_ nl))
   ⟨.put b (some (.bool true)) (.put a (some (.tup [.bool true,.int .i64 k,x])) (L l).slots),(L l).nsl,.put it (some (.mit (some (k,x)) (zee l k))) (L l).heap,0⟩) :
 DW P E rr nx (.loop (.seq (.region id ops false) rest)) K S:=by
 obtain⟨ax,nxf,Sf,hsw,hK⟩:=hend;have hax:ax≠.normal:=by rintro rfl;exact hK
 refine⟨ax,nxf,Sf,?_,by cases ax<;>first|exact absurd rfl hax|exact hK⟩
 refine zwl (α:={ l:List (Int×AV) // RisK l∧∀p∈l,p∈es }) (fun x=>(L x.1).at_ nl) (fun x=>x.1.length) ⟨es,hes,fun _ h=>h⟩ h0 (fun x=>hn) ?_
 rintro⟨l,hl1,hl2⟩
 obtain⟨q1,q2,q3,q4⟩:=hL l;refine SW.seq (zyb hE hops h1 g1 d1 h2 g2 d2 (S:=(L l).at_ nl) q3 q4 q1 q2 h24 (fun hl=>?_) (fun k x hkx=>?_))
 · subst hl
   refine SW.mono hsw fun e s he=>?_
   obtain⟨rfl,rfl⟩:=he;cases e<;>first|exact absurd rfl hax|exact⟨rfl,rfl⟩
 · obtain ⟨ax1, nx1, S1, hsw1, rfl, hwk⟩ := hrd l hl1 hl2 k x hkx
   refine SW.mono hsw1 fun e s he=>?_
   obtain⟨rfl,rfl⟩:=he;exact⟨⟨zee l k,zqi hl1,fun p hp=>hl2 p ((List.mem_filter.1 hp).1)⟩,hwk,yek hkx⟩
theorem zfr (hE:EnvOK P E)(hmix:P.follows .mixedOrders=true)(es:List (Int×AV))(it t a b:Nat)(keep ovr:List Nat)(cn:Nat)(vars:List (Int×AV)→List (Nat×AV))(hp:List (Int×AV)→List (Nat×AObj))(roots:List (Nat×Root))
 {id:Nat}{ops:Array Oper}{o1 o2:Oper}{rest:Code}{K:AX→Nat→St→Prop}{nx:Nat}{S:St}(hes:RisK es)(hops:ops=#[o1,o2])(h1:o1.op = .next (.tmp t) false)(g1:o1.guard=none)(d1:o1.dst=some a)(h2:o2.op = .extract (.tmp a) 0)(g2:o2.guard=none)(d2:o2.dst=some b)
 (h24:Nat.ble (it+2) 16777216=true)(hda:zbw S (some a)=true)(hdb:zbw S (some b)=true)
 (h:zni S.heap (it::ovr) fun hl=>zmc S keep fun kl=>(zen (vars es) fun vl=>appK vl kl fun sl=>appK ((it,.mit none es)::hp es) hl fun hl'=>chkW nx (nx+cn) roots S sl hl') ∧
   (∀l,zen (vars l) fun vl=>appK vl kl fun sl=>ofSK sl fun slT=>slT.get t=some (.ptr it 0 0)) ∧
   (zen (vars []) fun vl=>appK vl kl fun sl=>ofSK sl fun slT=>appK ((it,.mit none [])::hp []) hl fun hl'=>ofHK hl' fun hT=>daw3 P E rr rest (fun e nx' S'=>match e with | .normal=>False|e=>K e nx' S') (nx+cn+2)
     ⟨.put b (some (.bool false)) (.put a (some (.tup [.bool false])) slT),S.nsl,hT,0⟩) ∧
   ∀l,RisK l→(∀p∈l,p∈es)→∀k x,(k,x)∈l→zen (vars l) fun vl=>appK vl kl fun sl=>ofSK sl fun slT=>appK ((it,.mit none l)::hp l) hl fun hl'=>ofHK hl' fun hT=>
    daw3 P E rr rest (fun e nx' S'=>e = .normal∧S'.heap.get it=some (.mit (some (k,x)) (zee l k))∧S'.nsl=S.nsl ∧
     (zen (vars (zee l k)) fun vl=>appK vl kl fun sl=>appK ((it,.mit none (zee l k))::hp (zee l k)) hl fun hl'=>chkW nx (nx+cn) roots ⟨S'.slots,S'.nsl,.put it (some (.mit none (zee l k))) S'.heap,0⟩ sl hl')) (nx+cn+2)
    ⟨.put b (some (.bool true)) (.put a (some (.tup [.bool true,.int .i64 k,x])) slT),S.nsl,.put it (some (.mit (some (k,x)) (zee l k))) hT,0⟩) :
 DW P E rr nx (.loop (.seq (.region id ops false) rest)) K S:=by
 obtain⟨hl,h⟩:=zgr h;obtain⟨kl,h0,hsl,hend,hrd⟩:=zjz h;have hm:nx≤nx+cn:=Nat.le_add_right _ _;refine yfu hE hes (fun l=>⟨ofS (vars l++kl),S.nsl,ofH ((it,.mit none l)::hp l++hl),0⟩) (nx+cn) hops h1 g1 d1 h2 g2 d2 h24 hm (zoh hm (zcq (zcq (zc1 h0)))) (fun l=>⟨?_,?_,hda,hdb⟩) ?_ (fun l hl1 hl2 k x hkx=>?_)
 · exact zkb (zcq (zc1 (hsl l)))
 · show (Tr.put it (some (AObj.mit none l)) _).get it = _
   rw[Tr.get,Nat.beq_refl];rfl
 · exact zbq hE hmix rest (zn2 (zcq (zkb (zcq (zc1 hend)))))
 · have := zn2 (zcq (zkb (zcq (zc1 (hrd l hl1 hl2 k x hkx)))))
   refine(zbq hE hmix rest this).mono fun e nx' S' he=>?_
   obtain⟨rfl,h3,h4,h5⟩:=he;refine⟨rfl,(zt3 h3).transM ?_⟩;have:=zoh (P:=P) (E:=E) (nx:=nx') hm (zcq (zcq (zc1 h5)));rw[← h4];exact this
end Go.Ago
end
