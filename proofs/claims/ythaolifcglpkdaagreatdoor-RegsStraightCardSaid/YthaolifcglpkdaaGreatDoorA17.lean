/-
  Part 17: lemmas, each with its own conditions.
-/
import Derived.Tactics
import Derived.Tactics2
import Derived.Defers
import Derived.Recover
import Derived.Laws.Pointers
import Derived.Test.YthaolifcglpkdaaGreatDoorA14
set_option maxRecDepth 100000
set_option maxHeartbeats 0
set_option linter.all false
namespace Go.Ago
open Go.Proofs
theorem yf2 (a:Value):(#[a]++Array.replicate 16 undef)=#[a,undef,undef,undef,undef,undef,undef,undef,undef,undef,undef,undef,undef,undef,undef,undef,undef]:=by rfl
theorem zn4 {w:World}{p:Addr}{v:Value}(hc:w.cell? p=some v):p.block<w.heap.size:=by
 unfold World.cell? at hc
 by_cases h:p.block<w.heap.size
 · exact h
 · rw[Array.getElem?_eq_none (by omega)] at hc;cases hc
theorem zh3 {w:World}{p:Addr}{v:Value}(hc:w.cell? p=some v)(o:Obj):(w.alloc o).cell? p=some v:=
 (zf6 (Go.RowKit.Below.heap_alloc w o _ (zn4 hc))).trans hc
theorem zkm {w:World}{p:Addr}{v:Value}{b:Bool}(hc:w.cell? p=some v)(hz:w.frozen? p=b)(o:Obj):(w.alloc o).frozen? p=b:=by
 unfold World.frozen? at hz ⊢;rw[Go.RowKit.Below.heap_alloc w o _ (zn4 hc)];exact hz
theorem ync (u:Value)(w:World):(Instr.typeAssert (.iface 219 u) 20 219 true).run Tryz.prog w = .ok (.tuple #[u,.bool true]) w:=by
 obtain⟨d,hd,_,hdd⟩:=zch (eRg.ti 219 yhl rfl);simp only[Instr.typeAssert,Sem.run_bind,hd,Result.andThen_ok];have hnd:=zjo hdd (by intro h;cases h)
 cases d<;>first|exact absurd rfl (hnd _)|simp
theorem zmz (p:Addr)(x:Int)(e:Int)(w:World)(hc:w.cell? p=some (.int .i64 x))(hz:w.frozen? p=false) :
 CallsD Tryz.prog 176 #[.pointer (some p)] (.panicking [{ v := .iface 219 (.agg #[.int .i64 e]),recovered:=false }]) w fun en u' w'=>
  en = .returned (.tuple #[])∧u' = .panicking [{ v := .iface 219 (.agg #[.int .i64 e]),recovered:=true }]∧w'=(w.alloc (.cells #[.int .i64 e] 219)).setCell p (.int .i64 e):=by
 refine callsD_of_wpS Tryz.func176 rfl fun c₀ cs hu=>?_
 simp only[Tryz.ntmps176,List.size_toArray,List.length_cons,List.length_nil,Nat.reduceAdd,Nat.reduceSub,yf2]
 apply wpS_seq
 apply wpS_region
 simp[wpOpsS,go_sem,recoverD,hu,Exit.thenS];refine wpS_of_wp ?_;have hta:=fun w=>ync (.agg #[.int .i64 e]) w
 have hnot:∀w,(Op.unary .not (.bool true)).run Tryz.prog w = .ok (.bool false) w:=fun w=>rfl
 have hc2:(w.alloc (.cells #[.int .i64 e] 219)).cell? p=some (.int .i64 x):=zh3 hc _;have hz2:(w.alloc (.cells #[.int .i64 e] 219)).frozen? p=false:=zkm hc hz _
 go_wp2
 all_goals (cases c₀;simp_all[bodyPostS,results,Tryz.results176])
theorem zx3 (p:Addr)(w:World) :
 CallsD Tryz.prog 176 #[.pointer (some p)] .returning w fun e u' w'=>e = .returned (.tuple #[])∧u' = .returning∧w'=w:=by
 refine callsD_of_wpS Tryz.func176 rfl fun c₀ cs hu=>?_
 simp only[Tryz.ntmps176,List.size_toArray,List.length_cons,List.length_nil,Nat.reduceAdd,Nat.reduceSub,yf2]
 apply wpS_seq
 apply wpS_region
 simp[wpOpsS,go_sem,recoverD,hu,Exit.thenS];refine wpS_of_wp ?_
 go_wp2
 cases c₀
 simp_all[bodyPostS,results,Tryz.results176]
theorem zj8 {w:World}{p:Addr}{v:Value}:(w.setCell p v).heap.size=w.heap.size:=by
 unfold World.setCell;simp
theorem ze6 {w:World}{p:Addr}{v:Value}{b:Nat}(h:b≠p.block):(w.setCell p v).heap[b]? = w.heap[b]?:=by
 unfold World.setCell;simp[Array.getElem?_modify,Ne.symm h]
theorem WRel.grow {G:zd9}{c:Ctx}{w:World}(h:WRel G c w .nil)(o:Obj):WRel G c (w.alloc o) .nil:=by
 have hsz:(w.alloc o).heap.size=w.heap.size+1:=World.size_alloc w _;refine⟨fun b hb=>by have:=h.imm_lt b hb;omega,fun k B e=>by have:=h.f_lt k B e;omega,?_,?_,fun g cs e=>(h.glob g cs e).mono (Ctx.le.refl c) fun b hb=>Go.RowKit.Below.heap_alloc w o b (h.imm_lt b hb)⟩
 · intro k o' e;cases e
 · intro k k' o o' B B' e;cases e
def After (c:Ctx)(w0 w1:World):Prop:=∃c',Ext c w0 .nil c' w1 .nil∧(∀k,c'.f k=none)∧WRel ERg.glob c' w1 .nil
theorem zf2 {c:Ctx}{b:Nat}:¬Own c .nil b:=by rintro⟨k,o,B,h,_⟩;cases h
theorem After.cell {c:Ctx}{w w1:World}{v:Value}{t:TypeId}(h:After c (w.alloc (.cells #[v] t)) w1):w1.cell? ⟨w.heap.size,0,none⟩=some v∧w1.frozen? ⟨w.heap.size,0,none⟩=false:=by
 obtain⟨c',h1,_,_⟩:=h;have hs:w.heap.size<(w.alloc (.cells #[v] t)).heap.size:=by rw[World.size_alloc];omega
 have hb:=h1.other w.heap.size hs zf2;have h0:(w.alloc (.cells #[v] t)).heap[w.heap.size]? = some (.cells #[v] t):=heap_alloc_new w _;rw[h0] at hb;exact⟨by simp[World.cell?,hb],by simp[World.frozen?,hb]⟩
theorem After.fin {c:Ctx}{w w1 w2:World}{o:Obj}(hw:WRel ERg.glob c w .nil)(h:After c (w.alloc o) w1)(hs:w1.heap.size≤w2.heap.size)(ho:∀b,b≠w.heap.size→b<w1.heap.size→w2.heap[b]? = w1.heap[b]?)(h1:w2.os=w1.os)(h2:w2.tape=w1.tape)(h3:w2.output=w1.output):After c w w2:=by
 obtain⟨c',e,hf,hW⟩:=h;have hsz:(w.alloc o).heap.size=w.heap.size+1:=World.size_alloc w _;have hle:=e.size;have himm:∀b,c'.imm b→b≠w.heap.size:=by
  intro b hb he;subst he;rcases e.newimm _ hb with h|h|h
  · exact absurd (hw.imm_lt _ h) (by omega)
  · exact zf2 h
  · omega
 refine⟨c',⟨e.le,h1.trans (e.os.trans rfl),h2.trans (e.tape.trans rfl),h3.trans (e.output.trans rfl),by omega,fun b hb _=>?_,fun b hb=>?_,fun b hb=>absurd hb zf2⟩,hf,⟨fun b hb=>by have:=hW.imm_lt b hb;omega,fun k B e=>by have:=hW.f_lt k B e;omega,?_,?_,fun g cs eg=>(hW.glob g cs eg).mono (Ctx.le.refl c') fun b hb=>ho b (himm b hb) (hW.imm_lt b hb)⟩⟩
 · rw [ho b (by omega) (by omega), e.other b (by omega) zf2]
   exact Go.RowKit.Below.heap_alloc w o b hb
 · rcases e.newimm b hb with h | h | h
   · exact .inl h
   · exact .inr (.inl h)
   · exact .inr (.inr (by omega))
 · intro k o' e;cases e
 · intro k k' o o' B B' e;cases e
theorem zoj {g:FuncId}{cap:List AV}(hp:PC Tryz.prog ERg g cap (· = .ret (.tup []))):PC Tryz.prog ERg 127 [.fn (.func g) [] cap] (· = .ret (i64 0)):=by
 refine⟨⟨_,Tryz.func127,rfl,by decide⟩,fun c w vs hf hw hr=>?_⟩
 obtain⟨v,us0,rfl,hv,hus⟩:=hr.inv_cons;obtain rfl:=hus.inv_nil;cases hv with
 | @fn _ _ _ _ _ vs us h1 h2 hr1 hr2 =>
   obtain rfl:vs=[]:=List.eq_nil_of_length_eq_zero h1.symm;have hcap:RelL c w cap us:=⟨h2,hr2⟩;have hc2:=hcap.mono (w':=w.alloc (.cells #[.int .i64 0] 34)) (Ctx.le.refl c) fun b hb=>Go.RowKit.Below.heap_alloc w _ b (hw.imm_lt b hb)
   have hcall:Calls Tryz.prog g us.toArray (w.alloc (.cells #[.int .i64 0] 34)) fun e w1=>e = .returned (.tuple #[])∧After c (w.alloc (.cells #[.int .i64 0] 34)) w1:=by
    refine(hp.2 c _ us hf (hw.grow _) hc2).mono ?_
    rintro e w1 ⟨c',_,g1,g2,g3,g4,rfl⟩
    cases e<;>first|exact g4.elim|skip
    cases g4 with
    | @tup _ _ _ vs hl _ =>
      obtain rfl:vs=[]:=List.eq_nil_of_length_eq_zero hl.symm;exact⟨rfl,c',g1,g2,g3⟩
   have hmf:∀(fn:Fn) (first cap:Array Value) (w:World),(Instr.makeFunc fn first cap).run Tryz.prog w = .ok (.func fn first cap) w:=fun _ _ _ _=>rfl
   have hinv:∀w,(callFunc g us.toArray).run Tryz.prog w = .ok (.enter g us.toArray) w:=fun w=>zdl hp.1 _ w
   clear hr1 hr2 hc2 hcap hf
   go_enter_defers Tryz.func127,Tryz.ntmps127
   go_wp2_with (refine hcall.mono ?_;rintro e w1 ⟨rfl,ha⟩;obtain⟨hk1,hk2⟩:=ha.cell)
   show Leaves _ _ _ _ _ _ _;refine leaves_cons (f:=176) (args:=#[.pointer (some ⟨w.heap.size,0,none⟩)]) (by simp) (by simp[go_sem]) ?_
   refine(zx3 ⟨w.heap.size,0,none⟩ _).mono ?_
   rintro e u' w2 ⟨rfl,rfl,rfl⟩
   have hk3:(w1.setCell ⟨w.heap.size,0,none⟩ (.int .i64 0)).cell? ⟨w.heap.size,0,none⟩=some (.int .i64 0):=World.cell?_setCell_same _ _ _ hk1;refine⟨.int .i64 0,by simp[results,Tryz.results127,go_sem,hk3],?_⟩
   obtain⟨c',e1,e2,e3⟩:=ha.fin hw (w2:=w1.setCell ⟨w.heap.size,0,none⟩ (.int .i64 0)) (by rw[zj8];exact Nat.le_refl _) (fun b hb _=>ze6 hb) rfl rfl rfl
   exact⟨c',.ret (i64 0),e1,e2,e3,Rel.int _ _,rfl⟩
theorem zx2 {g:FuncId}{cap:List AV}{x:Int}(hp:PC Tryz.prog ERg g cap (· = .pan (zyh x))):PC Tryz.prog ERg 127 [.fn (.func g) [] cap] (· = .ret (i64 x)):=by
 refine⟨⟨_,Tryz.func127,rfl,by decide⟩,fun c w vs hf hw hr=>?_⟩
 obtain⟨v,us0,rfl,hv,hus⟩:=hr.inv_cons;obtain rfl:=hus.inv_nil;cases hv with
 | @fn _ _ _ _ _ vs us h1 h2 hr1 hr2 =>
   obtain rfl:vs=[]:=List.eq_nil_of_length_eq_zero h1.symm;have hcap:RelL c w cap us:=⟨h2,hr2⟩;have hc2:=hcap.mono (w':=w.alloc (.cells #[.int .i64 0] 34)) (Ctx.le.refl c) fun b hb=>Go.RowKit.Below.heap_alloc w _ b (hw.imm_lt b hb)
   have hcall:Calls Tryz.prog g us.toArray (w.alloc (.cells #[.int .i64 0] 34)) fun e w1=>e = .panicked [{ v := .iface 219 (.agg #[.int .i64 x]),recovered:=false }]∧After c (w.alloc (.cells #[.int .i64 0] 34)) w1:=by
    refine(hp.2 c _ us hf (hw.grow _) hc2).mono ?_
    rintro e w1 ⟨c',_,g1,g2,g3,g4,rfl⟩
    cases e<;>first|exact g4.elim|skip
    obtain⟨v,rfl,hv⟩:=g4;cases hv with
    | ifc _ hv =>
      cases hv with
      | @agg _ _ _ vs hl hr =>
        match vs,hl,hr with
        | [v0], _, hr =>
          have:=hr 0 _ _ rfl rfl;cases this;exact⟨rfl,c',g1,g2,g3⟩
   have hmf:∀(fn:Fn) (first cap:Array Value) (w:World),(Instr.makeFunc fn first cap).run Tryz.prog w = .ok (.func fn first cap) w:=fun _ _ _ _=>rfl
   have hinv:∀w,(callFunc g us.toArray).run Tryz.prog w = .ok (.enter g us.toArray) w:=fun w=>zdl hp.1 _ w
   clear hr1 hr2 hc2 hcap hf
   go_enter_defers Tryz.func127,Tryz.ntmps127
   go_wp2_with (refine hcall.mono ?_;rintro e w1 ⟨rfl,ha⟩;obtain⟨hk1,hk2⟩:=ha.cell)
   show Leaves _ _ _ _ _ _ _;refine leaves_cons (f:=176) (args:=#[.pointer (some ⟨w.heap.size,0,none⟩)]) (by simp) (by simp[go_sem]) ?_
   refine(zmz ⟨w.heap.size,0,none⟩ 0 x _ hk1 hk2).mono ?_
   rintro e u' w2 ⟨rfl,rfl,rfl⟩
   have hk3:(w1.alloc (.cells #[.int .i64 x] 219)).cell? ⟨w.heap.size,0,none⟩=some (.int .i64 0):=zh3 hk1 _;have hk4:((w1.alloc (.cells #[.int .i64 x] 219)).setCell ⟨w.heap.size,0,none⟩ (.int .i64 x)).cell? ⟨w.heap.size,0,none⟩=some (.int .i64 x):=World.cell?_setCell_same _ _ _ hk3;refine⟨.int .i64 x,by simp[results,Tryz.results127,go_sem,hk4],?_⟩
   have hsz:(w1.alloc (.cells #[.int .i64 x] 219)).heap.size=w1.heap.size+1:=World.size_alloc _ _;obtain⟨c',e1,e2,e3⟩:=ha.fin hw (w2:=(w1.alloc (.cells #[.int .i64 x] 219)).setCell ⟨w.heap.size,0,none⟩ (.int .i64 x)) (by rw[zj8];omega) (fun b hb hb2=>(ze6 hb).trans (Go.RowKit.Below.heap_alloc w1 _ b hb2)) rfl rfl rfl
   exact⟨c',e1,e2,e3,Rel.int _ _⟩
theorem yfc {g:FuncId}{cap:List AV}{p:Prop}(h:DPR g cap (retU p)):DPR 127 [.fn (.func g) [] cap] (retI fun e=>e=0→p):=by
 obtain⟨ae,hp,⟨rfl,hpp⟩|⟨e,rfl,he⟩⟩:=h
 · exact⟨_,zoj hp,0,rfl,fun _=>hpp⟩
 · exact⟨_,zx2 hp,e,rfl,fun h=>absurd h he⟩
end Go.Ago
