/-
  Part A17: lemmas, each with its own conditions.
-/
import Derived.WalkKit
import Derived.OwnWalk
import Derived.Lib.SliceRun
import Derived.Laws.AppendOwn
import Derived.Test.YthaolifcglpkdaaGreatDoorA15
set_option maxRecDepth 100000
set_option maxHeartbeats 0
set_option linter.all false
namespace Go.Ago
open Go.Proofs Go.RowKit List Nat Tryz
theorem PC.Cz {P:Program}{E:Env}{g:FuncId}{args:List AV}{Q:AE->Prop}(j:rf P g)
 (h:∀c w vs,aN E.bR c w .nil->aQ c w args vs->Calls P g vs.toArray w fun e w'=>Below w.heap.size w w'∧∃i,(∀c',c'.au=c.au->lS c' w' i e)∧Q i):PC P E g args Q:=by
 refine⟨j,fun c w vs r f q=>(h c w _ f q).mono ?_⟩
 rintro e w' ⟨a,i,n,m⟩
 refine⟨c,i,⟨.refl c,a.os,a.tape,a.output,a.size,fun b l _=>a.block b l,fun b d => .inl d,fun b p=>(lJ p).elim⟩,r,?_,n c rfl,m⟩
 refine⟨fun b d=>Nat.lt_of_lt_of_le (f.bH b d) a.size,fun k B e=>(by grind),fun k o e=>(by cases e),fun k t o u B v e=>(by cases e),fun g s e=>?_⟩
 exact(f.bR g _ e).mono (.refl c) (fun b d=>a.block b (f.bH b d))
theorem JO {c:Ctx}{w:World}{B:Nat}{e:TypeId}{size sz:Nat}{v:Value}(h:w.ownsRow B e size v 0 []):Rel c w (.ak sz []) v:=by
 obtain⟨_,⟨rfl,_⟩|⟨g,b,a,rfl,_,_,d,_⟩⟩:=h
 . exact .fk _
 exact .ak (fun _ _=>undef) (ag) (ag) ag (ag) ag
theorem Qf (a:Addr)(c:Nat)(w:World):Calls prog 75 #[.slice (some a) 0 c] w fun e w'=>∃l,e = .returned l∧w'.ownsRow w.heap.size 128 1 l 0 []∧Below w.heap.size w w':=by
 have d:prog.underlying 91=some (.slice 128):=aG;have g:(prog.info? 128).map (fun i=>(i.zero,i.size,i.bytes))=some (some (.int .u64 0),1,8):=aG
 obtain⟨B,A,o,p,r⟩:=info_parts g;have t:∀(w:World) (a:Option Addr) (n c m q:Nat),(binOp .eql 91 (.slice a n c) (.slice none m q)).run prog w = .ok (.bool a.isNone) w:=fun w a n c m q=>Lib.run_eql_slice_nil w _ _ a n c m q d
 have x:∀w,Sem.run prog (underlying 91) w = .ok (TypeDesc.slice 128) w:=run_underlying d
 go_enter func75,ntmps75
 go_wp2_with (at_builtin;refine wpList_append_own _ rfl _ _ 91 rfl w.heap.size 128 B (.int .u64 0) 1 8 d A o p r rfl ab _ _ _ rfl (World.ownsRow_made w #[] 0 (Nat.le_refl _) (zero_le _) rfl) a 0 c [] rfl rfl (by intro j u y;simp at y) (by intro u z;cases z) (by unfold maxLen;omega) aa ag ?_)
 intro l D h f s
 go_wp2
 go_ret
 refine⟨l,rfl,by simpa using h,?_⟩
 exact((Below.refl _ w).alloc (Nat.le_refl _) _).grown f ag (by intro k C;simp[Value.ownBlock] at C;omega)
theorem Qg (w:World):Calls prog 75 #[.slice none 0 0] w fun e w'=>e = .returned (.slice none 0 0)∧w'=w:=by
 have d:prog.underlying 91=some (.slice 128):=aG;have g:=fun w a n c h i=>Lib.run_eql_slice_nil w _ _ a n c h i d
 go_wp2
 go_ret
 exact⟨rfl,rfl⟩
theorem Qc:PC prog fx 75 [.ak 1 []] (· = .ret (.ak 1 [])):=by
 refine PC.Cz ⟨_,func75,rfl,ab⟩ fun c w q p i=>?_
 obtain⟨v,n,rfl,f,j⟩:=i.dT;obtain rfl:=j.fY
 generalize k:AV.ak 1 []=x at f
 cases f<;>cases k
 . rename_i d a _ _ _ _ _ _
   refine(Qf a d w).mono ?_
   rintro e h ⟨o,rfl,l,m⟩
   exact⟨m,.ret (.ak 1 []),fun g _=>JO l,rfl⟩
 . refine (Qg w).mono ?_
   rintro e h ⟨rfl,rfl⟩
   exact⟨Below.refl _ _,.ret (.ak 1 []),fun g _=>Rel.fk 1,rfl⟩
theorem Qe:af 75 [.ak 1 []] (fun a=>a = .ret (.ak 1 [])):=⟨_,Qc,rfl⟩
end Go.Ago
