/-
  Part 29: lemmas, each with its own conditions.
-/
import Derived.WalkKit
import Derived.OwnWalk
import Derived.Lib.SliceRun
import Derived.Laws.AppendOwn
import Derived.Test.YthaolifcglpkdaaGreatDoorA14
set_option maxRecDepth 100000
set_option maxHeartbeats 0
set_option linter.all false
namespace Go.Ago
open Go.Proofs Go.RowKit
theorem zkg {P:Program}{E:Env}{g:FuncId}{args:List AV}{Q:AE→Prop}(hok:zos P g)
 (h:∀c w vs,WRel E.glob c w .nil→RelL c w args vs→Calls P g vs.toArray w fun e w'=>Below w.heap.size w w'∧∃ae,(∀c',c'.imm=c.imm→ERel c' w' ae e)∧Q ae):PC P E g args Q:=by
 refine⟨hok,fun c w vs hf hw hr=>(h c w vs hw hr).mono ?_⟩
 rintro e w' ⟨hb,ae,h1,h2⟩
 refine⟨c,ae,⟨.refl c,hb.os,hb.tape,hb.output,hb.size,fun b hlt _=>hb.block b hlt,fun b hi => .inl hi,fun b ho=>(zeo ho).elim⟩,hf,?_,h1 c rfl,h2⟩
 refine⟨fun b hi=>Nat.lt_of_lt_of_le (hw.imm_lt b hi) hb.size,fun k B e=>(by rw[hf k] at e;cases e),fun k o e=>(by cases e),fun k k' o o' B B' e=>(by cases e),fun g cs e=>?_⟩
 exact(hw.glob g cs e).mono (.refl c) (fun b hi=>hb.block b (hw.imm_lt b hi))
theorem zu1 {c:Ctx}{w:World}{B:Nat}{e:TypeId}{size sz:Nat}{v:Value}(h:w.ownsRow B e size v 0 []):Rel c w (.rsl sz []) v:=by
 obtain⟨_,⟨rfl,_⟩|⟨g,cap,cur,rfl,_,_,h1,_⟩⟩:=h
 · exact .rnil sz
 · exact .rsl (es:=[]) (fun _ _=>undef) (Nat.zero_le _) (fun h=>absurd h (Nat.lt_irrefl 0)) (by simp) (fun i j h=>absurd h (Nat.not_lt_zero _)) (by simp)
theorem ybq (a:Addr)(c:Nat)(w:World):Calls Tryz.prog 75 #[.slice (some a) 0 c] w fun e w'=>∃v',e = .returned v'∧w'.ownsRow w.heap.size 128 1 v' 0 []∧Below w.heap.size w w':=by
 have t91:Tryz.prog.underlying 91=some (.slice 128):=by kernel_rfl
 have i128:(Tryz.prog.info? 128).map (fun i=>(i.zero,i.size,i.bytes))=some (some (.int .u64 0),1,8):=by kernel_rfl
 obtain⟨i0,hi,hz0,hz1,hz2⟩:=info_parts i128;have q91:∀(w:World) (a:Option Addr) (n c n' c':Nat),(binOp .eql 91 (.slice a n c) (.slice none n' c')).run Tryz.prog w = .ok (.bool a.isNone) w:=fun w a n c n' c'=>Lib.run_eql_slice_nil w _ _ a n c n' c' t91
 have u91:∀w,Sem.run Tryz.prog (underlying 91) w = .ok (TypeDesc.slice 128) w:=run_underlying t91
 go_enter Tryz.func75,Tryz.ntmps75
 go_wp2_with (at_builtin;refine wpList_append_own _ rfl _ _ 91 rfl w.heap.size 128 i0 (.int .u64 0) 1 8 t91 hi hz0 hz1 hz2 rfl (by decide) _ _ _ rfl (World.ownsRow_made w #[] 0 (Nat.le_refl _) (Nat.zero_le _) rfl) a 0 c [] rfl rfl (by intro j u hj;simp at hj) (by intro u hu;cases hu) (by unfold maxLen;omega) (by omega) (by simp) ?_)
 intro v' w1 hown hgrow hnil
 go_wp2
 go_ret
 refine⟨v',rfl,by simpa using hown,?_⟩
 exact((Below.refl _ w).alloc (Nat.le_refl _) _).grown hgrow (by simp) (by intro k hk;simp[Value.ownBlock] at hk;omega)
theorem ybp (w:World):Calls Tryz.prog 75 #[.slice none 0 0] w fun e w'=>e = .returned (.slice none 0 0)∧w'=w:=by
 have t91:Tryz.prog.underlying 91=some (.slice 128):=by kernel_rfl
 have q91:∀(w:World) (a:Option Addr) (n c n' c':Nat),(binOp .eql 91 (.slice a n c) (.slice none n' c')).run Tryz.prog w = .ok (.bool a.isNone) w:=fun w a n c n' c'=>Lib.run_eql_slice_nil w _ _ a n c n' c' t91
 go_enter Tryz.func75,Tryz.ntmps75
 go_wp2
 go_ret
 exact⟨rfl,rfl⟩
theorem ybt:PC Tryz.prog ERg 75 [.rsl 1 []] (· = .ret (.rsl 1 [])):=by
 refine zkg ⟨_,Tryz.func75,rfl,by decide⟩ fun c w vs hw hr=>?_
 obtain⟨v,us,rfl,h1,h2⟩:=hr.inv_cons;obtain rfl:=h2.inv_nil
 generalize hx:AV.rsl 1 []=x at h1
 cases h1<;>cases hx
 · rename_i cap a _ _ _ _ _ _
   refine(ybq a cap w).mono ?_
   rintro e w' ⟨v',rfl,h3,h4⟩
   exact⟨h4,.ret (.rsl 1 []),fun c' _=>zu1 h3,rfl⟩
 · refine (ybp w).mono ?_
   rintro e w' ⟨rfl,rfl⟩
   exact⟨Below.refl _ _,.ret (.rsl 1 []),fun c' _=>Rel.rnil 1,rfl⟩
theorem ybr:DPR 75 [.rsl 1 []] (fun ae=>ae = .ret (.rsl 1 [])):=⟨_,ybt,rfl⟩
end Go.Ago
