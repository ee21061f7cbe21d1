/-
  Part B09: lemmas, each with its own conditions.
-/
import Derived.Tactics
import Derived.Tactics2
import Derived.Defers
import Derived.Recover
import Derived.Laws.Pointers
import Derived.Test.YthaolifcglpkdaaGreatDoorB08
set_option maxRecDepth 100000
set_option maxHeartbeats 0
set_option linter.all false
namespace Go.Ago
open Go.Proofs List Nat Tryz
theorem Nw (a:Value):(#[a]++Array.replicate 16 undef)=#[a,undef,undef,undef,undef,undef,undef,undef,undef,undef,undef,undef,undef,undef,undef,undef,undef]:=by rfl
theorem lt_of_cell {w:World}{p:Addr}{v:Value}(a:w.cell? p=some v):p.block<w.heap.size:=by
 unfold World.cell? at *
 grind
theorem FE {w:World}{p:Addr}{v:Value}(a:w.cell? p=some v)(o:Obj):(w.alloc o).cell? p=some v:=
 (wz (Go.RowKit.Below.heap_alloc w o _ (lt_of_cell a))).trans a
theorem SF {w:World}{p:Addr}{v:Value}{b:Bool}(c:w.cell? p=some v)(a:w.frozen? p=b)(o:Obj):(w.alloc o).frozen? p=b:=by
 unfold World.frozen? at *;rw[Go.RowKit.Below.heap_alloc w o _ (lt_of_cell c)];exact a
theorem Ye (u:Value)(w:World):(Instr.typeAssert (.iface 219 u) 20 219 true).run prog w = .ok (.tuple #[u,.bool true]) w:=rfl
theorem PN (p:Addr)(x:Int)(e:Int)(w:World)(d:w.cell? p=some (.int .i64 x))(h:w.frozen? p=false) :
 CallsD prog 176 #[.pointer (some p)] (.panicking [{ v := .iface 219 (.agg #[.int .i64 e]),recovered:=false }]) w fun k l w'=>
  k = .returned (.tuple #[])∧l = .panicking [{ v := .iface 219 (.agg #[.int .i64 e]),recovered:=true }]∧w'=(w.alloc (.cells #[.int .i64 e] 219)).setCell p (.int .i64 e):=by
 refine callsD_of_wpS func176 rfl fun b n j=>?_
 simp only[ntmps176,zcy,zbd,zbp,reduceAdd,reduceSub,Nw]
 apply wpS_seq
 apply wpS_region
 simp[wpOpsS,go_sem,recoverD,j,Exit.thenS];refine wpS_of_wp ?_;have i:=fun w=>Ye (.agg #[.int .i64 e]) w
 have f:∀w,(Op.unary .not (.bool true)).run prog w = .ok (.bool false) w:=fun w=>rfl
 have m:(w.alloc (.cells #[.int .i64 e] 219)).cell? p=some (.int .i64 x):=FE d _;have g:(w.alloc (.cells #[.int .i64 e] 219)).frozen? p=false:=SF d h _
 go_wp2
 all_goals (cases b;simp_all[bodyPostS,results,results176])
theorem PM (p:Addr)(w:World) :
 CallsD prog 176 #[.pointer (some p)] .returning w fun e d w'=>e = .returned (.tuple #[])∧d = .returning∧w'=w:=by
 refine callsD_of_wpS func176 rfl fun b g f=>?_
 simp only[ntmps176,zcy,zbd,zbp,reduceAdd,reduceSub,Nw]
 apply wpS_seq
 apply wpS_region
 simp[wpOpsS,go_sem,recoverD,f,Exit.thenS];refine wpS_of_wp ?_
 go_wp2
 cases b
 simp_all[bodyPostS,results,results176]
theorem size_setCell {w:World}{p:Addr}{v:Value}:(w.setCell p v).heap.size=w.heap.size:=by
 simp
theorem heap_setCell_other {w:World}{p:Addr}{v:Value}{b:Nat}(h:b≠p.block):(w.setCell p v).heap[b]? = w.heap[b]?:=by
 unfold World.setCell
 grind
theorem aN.grow {G:eZ}{c:Ctx}{w:World}(h:aN G c w .nil)(o:Obj):aN G c (w.alloc o) .nil:=by
 have d:(w.alloc o).heap.size=w.heap.size+1:=World.size_alloc w _;refine⟨fun b a=>by have:=h.bN b a;omega,fun k B e=>by have:=h.bW k B e;omega,?_,?_,fun g l e=>(h.bS g _ e).mono (Ctx.le.refl c) fun b a=>Go.RowKit.Below.heap_alloc w o b (h.bN b a)⟩
 . intro k f e;cases e
 intro k m o f B i e;cases e
def pf (c:Ctx)(w0 b:World):Prop:=∃a,Ext c w0 .nil a b .nil∧(∀k,a.f k=none)∧aN fB.bS a b .nil
theorem xO {c:Ctx}{b:Nat}:¬Own c .nil b:=by rintro⟨k,o,B,h,_⟩;cases h
theorem pf.cell {c:Ctx}{w b:World}{v:Value}{t:TypeId}(h:pf c (w.alloc (.cells #[v] t)) b):b.cell? ⟨w.heap.size,0,none⟩=some v∧b.frozen? ⟨w.heap.size,0,none⟩=false:=by
 obtain⟨g,e,_,_⟩:=h;have f:w.heap.size<(w.alloc (.cells #[v] t)).heap.size:=ag;have a:=e.other _ f xO;have d:(w.alloc _).heap[w.heap.size]? = some (.cells #[v] t):=heap_alloc_new w _;rw[d] at a;exact⟨by simp[World.cell?,a],by simp[World.frozen?,a]⟩
theorem pf.fin {c:Ctx}{w d w2:World}{o:Obj}(r:aN fB.bS c w .nil)(h:pf c (w.alloc o) d)(C:d.heap.size≤w2.heap.size)(l:∀b,b≠w.heap.size->b<d.heap.size->w2.heap[b]? = d.heap[b]?)(u:w2.os=d.os)(p:w2.tape=d.tape)(n:w2.output=d.output):pf c w w2:=by
 obtain⟨j,e,q,i⟩:=h;have m:(w.alloc o).heap.size=w.heap.size+1:=World.size_alloc w _;have t:=e.size;have f:∀b,j.aq b->b≠w.heap.size:=by
  intro b a y;subst y;rcases e.ez _ a with h|h|h
  . exact absurd (r.bN _ h) aa
  . exact xO h
  . omega
 refine⟨j,⟨e.le,u.trans (e.os.trans rfl),p.trans (e.tape.trans rfl),n.trans (e.output.trans rfl),aa,fun b a _=>?_,fun b a=>?_,fun b a=>absurd a xO⟩,q,⟨fun b a=>by have:=i.bN b a;omega,fun k B e=>by have:=i.bW k B e;omega,?_,?_,fun g s v=>(i.bS g s v).mono (Ctx.le.refl j) fun b a=>l b (f b a) (i.bN b a)⟩⟩
 . rw [l b aa aa, e.other b aa xO]
   exact Go.RowKit.Below.heap_alloc w o b a
 . rcases e.ez b a with h | h | h
   . exact .inl h
   . exact .inr (.inl h)
   . exact .inr (.inr aa)
 . intro k x e;cases e
 . intro k D o x B z e;cases e
theorem FD {g:FuncId}{cap:List AV}(hp:PC prog fB g cap (· = .ret (.ao []))):PC prog fB 127 [.fn (.func g) [] cap] (· = .ret (i64 0)):=by
 refine⟨⟨_,func127,rfl,ab⟩,fun c w n hf hw hr=>?_⟩
 obtain⟨v,us0,rfl,hv,o⟩:=hr.dP;obtain rfl:=o.fX;cases hv with
 | @fn _ _ _ _ _ n l h1 h2 q m =>
   obtain rfl:n=[]:=zbh h1.symm;have h:aP c w cap l:=⟨h2,m⟩;have k:=h.mono (w':=w.alloc (.cells #[.int .i64 0] 34)) (Ctx.le.refl c) fun b hb=>Go.RowKit.Below.heap_alloc w _ b (hw.bN b hb)
   have i:Calls prog g l.toArray (w.alloc (.cells #[.int .i64 0] 34)) fun e j=>e = .returned (.tuple #[])∧pf c (w.alloc (.cells #[.int .i64 0] 34)) j:=by
    refine(hp.2 c _ l hf (hw.grow _) k).mono ?_
    rintro e j ⟨c',_,g1,g2,g3,g4,rfl⟩
    cases e<;>first|exact g4.elim|skip
    cases g4 with
    | @ao _ _ _ n hl _ =>
      obtain rfl:n=[]:=zbh hl.symm;exact⟨rfl,c',g1,g2,g3⟩
   have hmf:∀(fn:Fn) (first cap:Array Value) (w:World),(Instr.makeFunc fn first cap).run prog w = .ok (.func fn first cap) w:=fun _ _ _ _=>rfl
   have hinv:∀w,(callFunc g l.toArray).run prog w = .ok (.enter g l.toArray) w:=fun w=>qH hp.1 _ w
   clear q m k h hf
   go_enter_defers func127,ntmps127
   go_wp2_with (refine i.mono ?_;rintro e j ⟨rfl,ha⟩;obtain⟨hk1,hk2⟩:=ha.cell)
   show Leaves _ _ _ _ _ _ _;refine leaves_cons (f:=176) (args:=#[.pointer (some ⟨w.heap.size,0,none⟩)]) ag (by simp[go_sem]) ?_
   refine(PM ⟨w.heap.size,0,none⟩ _).mono ?_
   rintro e u' w2 ⟨rfl,rfl,rfl⟩
   have hk3:(j.setCell ⟨w.heap.size,0,none⟩ (.int .i64 0)).cell? ⟨w.heap.size,0,none⟩=some (.int .i64 0):=World.cell?_setCell_same _ _ _ hk1;refine⟨.int .i64 0,by simp[results,results127,go_sem,hk3],?_⟩
   obtain⟨c',e1,e2,e3⟩:=ha.fin hw (w2:=j.setCell ⟨w.heap.size,0,none⟩ (.int .i64 0)) (by rw[size_setCell];exact zbm _) (fun b hb _=>heap_setCell_other hb) rfl rfl rfl
   exact⟨c',.ret (i64 0),e1,e2,e3,Rel.int _ _,rfl⟩
theorem P0 {g:FuncId}{cap:List AV}{x:Int}(hp:PC prog fB g cap (· = .aU (Es x))):PC prog fB 127 [.fn (.func g) [] cap] (· = .ret (i64 x)):=by
 refine⟨⟨_,func127,rfl,ab⟩,fun c w vs hf hw m=>?_⟩
 obtain⟨v,us0,rfl,o,hus⟩:=m.dP;obtain rfl:=hus.fX;cases o with
 | @fn _ _ _ _ _ vs l h1 h2 hr1 k =>
   obtain rfl:vs=[]:=zbh h1.symm;have i:aP c w cap l:=⟨h2,k⟩;have n:=i.mono (w':=w.alloc (.cells #[.int .i64 0] 34)) (Ctx.le.refl c) fun b hb=>Go.RowKit.Below.heap_alloc w _ b (hw.bN b hb)
   have j:Calls prog g l.toArray (w.alloc (.cells #[.int .i64 0] 34)) fun e d=>e = .panicked [{ v := .iface 219 (.agg #[.int .i64 x]),recovered:=false }]∧pf c (w.alloc (.cells #[.int .i64 0] 34)) d:=by
    refine(hp.2 c _ l hf (hw.grow _) n).mono ?_
    rintro e d ⟨c',_,g1,g2,g3,g4,rfl⟩
    cases e<;>first|exact g4.elim|skip
    obtain⟨v,rfl,o⟩:=g4;cases o with
    | cG _ o =>
      cases o with
      | @agg _ _ _ vs hl m =>
        match vs,hl,m with
        | [v0], _, m =>
          have:=m 0 _ _ rfl rfl;cases this;exact⟨rfl,c',g1,g2,g3⟩
   have hmf:∀(fn:Fn) (first cap:Array Value) (w:World),(Instr.makeFunc fn first cap).run prog w = .ok (.func fn first cap) w:=fun _ _ _ _=>rfl
   have hinv:∀w,(callFunc g l.toArray).run prog w = .ok (.enter g l.toArray) w:=fun w=>qH hp.1 _ w
   clear hr1 k n i hf
   go_enter_defers func127,ntmps127
   go_wp2_with (refine j.mono ?_;rintro e d ⟨rfl,ha⟩;obtain⟨hk1,hk2⟩:=ha.cell)
   show Leaves _ _ _ _ _ _ _;refine leaves_cons (f:=176) (args:=#[.pointer (some ⟨w.heap.size,0,none⟩)]) ag (by simp[go_sem]) ?_
   refine(PN ⟨w.heap.size,0,none⟩ 0 x _ hk1 hk2).mono ?_
   rintro e u' w2 ⟨rfl,rfl,rfl⟩
   have hk3:(d.alloc (.cells #[.int .i64 x] 219)).cell? ⟨w.heap.size,0,none⟩=some (.int .i64 0):=FE hk1 _;have hk4:((d.alloc (.cells #[.int .i64 x] 219)).setCell ⟨w.heap.size,0,none⟩ (.int .i64 x)).cell? ⟨w.heap.size,0,none⟩=some (.int .i64 x):=World.cell?_setCell_same _ _ _ hk3;refine⟨.int .i64 x,by simp[results,results127,go_sem,hk4],?_⟩
   have hsz:(d.alloc (.cells #[.int .i64 x] 219)).heap.size=d.heap.size+1:=World.size_alloc _ _;obtain⟨c',e1,e2,e3⟩:=ha.fin hw (w2:=(d.alloc (.cells #[.int .i64 x] 219)).setCell ⟨w.heap.size,0,none⟩ (.int .i64 x)) (by rw[size_setCell];omega) (fun b hb hb2=>(heap_setCell_other hb).trans (Go.RowKit.Below.heap_alloc d _ b hb2)) rfl rfl rfl
   exact⟨c',e1,e2,e3,Rel.int _ _⟩
theorem PZ {g:FuncId}{cap:List AV}{p:Prop}(h:af g cap (oW p)):af 127 [.fn (.func g) [] cap] (eS fun e=>e=0->p):=by
 obtain⟨d,b,⟨rfl,a⟩|⟨e,rfl,c⟩⟩:=h
 . exact⟨_,FD b,0,rfl,fun _=>a⟩
 exact⟨_,P0 b,e,rfl,fun h=>absurd h c⟩
end Go.Ago
