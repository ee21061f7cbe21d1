/-
  Part B10: lemmas, each with its own conditions.
-/
import Derived.WalkKit
import Derived.OwnWalk
import Derived.Lib.SliceRun
import Derived.Laws.AppendOwn
import Derived.Test.YthaolifcglpkdaaGreatDoorB08
set_option maxRecDepth 100000
set_option maxHeartbeats 0
set_option linter.all false
namespace Go.Ago
open Go.Proofs Go.RowKit List Nat Tryz
theorem PC.CQ {P:Program}{E:Env}{g:FuncId}{args:List AV}{Q:AE->Prop}(j:qY P g)
 (h:∀c w vs,aN E.bS c w .nil->aP c w args vs->Calls P g vs.toArray w fun e w'=>Below w.heap.size w w'∧∃i,(∀c',c'.aq=c.aq->lT c' w' i e)∧Q i):PC P E g args Q:=by
 refine⟨j,fun c w vs r f q=>(h c w _ f q).mono ?_⟩
 rintro e w' ⟨a,i,n,m⟩
 refine⟨c,i,⟨.refl c,a.os,a.tape,a.output,a.size,fun b l _=>a.block b l,fun b d => .inl d,fun b p=>(lJ p).elim⟩,r,?_,n c rfl,m⟩
 refine⟨fun b d=>zbJ (f.bN b d) a.size,fun k B e=>(by grind),fun k o e=>(by cases e),fun k t o u B v e=>(by cases e),fun g s e=>?_⟩
 exact(f.bS g _ e).mono (.refl c) (fun b d=>a.block b (f.bN b d))
theorem J5 {c:Ctx}{w:World}{B:Nat}{e:TypeId}{size sz:Nat}{v:Value}(h:w.ownsRow B e size v 0 []):Rel c w (.ak sz []) v:=by
 obtain⟨_,⟨rfl,_⟩|⟨g,b,a,rfl,_,_,d,_⟩⟩:=h
 . exact .fh _
 exact .ak (fun _ _=>undef) (ag) (ag) ag (ag) ag
theorem QK (a:Addr)(c:Nat)(w:World):Calls prog 75 #[.slice (some a) 0 c] w fun e w'=>∃l,e = .returned l∧w'.ownsRow w.heap.size 128 1 l 0 []∧Below w.heap.size w w':=by
 have d:prog.underlying 91=some (.slice 128):=aG;have g:(prog.info? 128).map (fun i=>(i.zero,i.size,i.bytes))=some (some (.int .u64 0),1,8):=aG
 obtain⟨B,A,o,p,r⟩:=info_parts g;have t:∀(w:World) (a:Option Addr) (n c m q:Nat),(binOp .eql 91 (.slice a n c) (.slice none m q)).run prog w = .ok (.bool a.isNone) w:=fun w a n c m q=>Lib.run_eql_slice_nil w _ _ a n c m q d
 have x:∀w,Sem.run prog (underlying 91) w = .ok (TypeDesc.slice 128) w:=run_underlying d
 go_enter func75,ntmps75
 go_wp2_with (at_builtin;refine wpList_append_own _ rfl _ _ 91 rfl w.heap.size 128 B (.int .u64 0) 1 8 d A o p r rfl ab _ _ _ rfl (World.ownsRow_made w #[] 0 (zbm _) (zbq _) rfl) a 0 c [] rfl rfl (by intro j u y;simp at y) (by intro u z;cases z) (by unfold maxLen;omega) aa ag ?_)
 intro l D h f s
 go_wp2
 go_ret
 refine⟨l,rfl,by simpa using h,?_⟩
 exact((Below.refl _ w).alloc (zbm _) _).grown f ag (by intro k C;simp[Value.ownBlock] at C;omega)
theorem QL (w:World):Calls prog 75 #[.slice none 0 0] w fun e w'=>e = .returned (.slice none 0 0)∧w'=w:=by
 have d:prog.underlying 91=some (.slice 128):=aG;have g:=fun w a n c h i=>Lib.run_eql_slice_nil w _ _ a n c h i d
 go_wp2
 go_ret
 exact⟨rfl,rfl⟩
theorem QH:PC prog fB 75 [.ak 1 []] (· = .ret (.ak 1 [])):=by
 refine PC.CQ ⟨_,func75,rfl,ab⟩ fun c w q p i=>?_
 obtain⟨v,n,rfl,f,j⟩:=i.dP;obtain rfl:=j.fX
 generalize k:AV.ak 1 []=x at f
 cases f<;>cases k
 . rename_i d a _ _ _ _ _ _
   refine(QK a d w).mono ?_
   rintro e h ⟨o,rfl,l,m⟩
   exact⟨m,.ret (.ak 1 []),fun g _=>J5 l,rfl⟩
 . refine (QL w).mono ?_
   rintro e h ⟨rfl,rfl⟩
   exact⟨Below.refl _ _,.ret (.ak 1 []),fun g _=>Rel.fh 1,rfl⟩
theorem QJ:af 75 [.ak 1 []] (fun a=>a = .ret (.ak 1 [])):=⟨_,QH,rfl⟩
end Go.Ago
