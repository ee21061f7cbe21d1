/-
  Part B38: lemmas, each with its own conditions.
-/
import Derived.Test.YthaolifcglpkdaaGreatDoorB36
set_option maxRecDepth 100000
set_option maxHeartbeats 0
set_option linter.all false
namespace Go.Ago
open Go.Proofs Go.RowKit List Nat Tryz
theorem QE (a:Addr)(c:Nat)(w:World):Calls prog 19 #[.slice (some a) 0 c] w fun e w'=>∃m,e = .returned m∧w'.ownsRow w.heap.size 62 29 m 0 []∧Below w.heap.size w w':=by
 have g:prog.underlying 42=some (.slice 62):=aG;obtain⟨d,z0,hi,hz0,hzs,p,o⟩:∃d z,prog.info? 62=some d∧d.zero=some z∧z.cells.size=29∧d.size=29∧d.bytes=304:=by
  have h:(prog.info? 62).map (fun i=>(i.zero.map fun z=>z.cells.size,i.size,i.bytes))=some (some 29,29,304):=aG
  cases e:prog.info? 62 with
  | none=>rw[e] at h;cases h
  | some d =>
    rw[e] at h;simp only[zcn,zbg,zdb] at h;cases r:d.zero with
    | none=>rw[r] at h;cases h.1
    | some z=>rw[r] at h;simp only[zcn,zbg] at h;exact⟨d,z,rfl,r,h.1,h.2.1,h.2.2⟩
 have q42:∀(w:World) (a:Option Addr) (n c s q:Nat),(binOp .eql 42 (.slice a n c) (.slice none s q)).run prog w = .ok (.bool a.isNone) w:=fun w a n c s q=>Lib.run_eql_slice_nil w _ _ a n c s q g
 have u42:∀w,Sem.run prog (underlying 42) w = .ok (TypeDesc.slice 62) w:=run_underlying g
 go_enter func19,ntmps19
 go_wp2_with (at_builtin;refine wpList_append_own _ rfl _ _ 42 rfl w.heap.size 62 d z0 29 304 g hi hz0 p o hzs ab _ _ _ rfl (World.ownsRow_made w #[] 0 (zbm _) (zbq _) rfl) a 0 c [] rfl rfl (by intro j u hj;simp at hj) (by intro u hu;cases hu) (by unfold maxLen;omega) aa ag ?_)
 intro m w1 l f hnil
 go_wp2
 go_ret
 refine⟨m,rfl,by simpa using l,?_⟩
 exact((Below.refl _ w).alloc (zbm _) _).grown f ag (by intro k hk;simp[Value.ownBlock] at hk;omega)
theorem QF (w:World):Calls prog 19 #[.slice none 0 0] w fun e w'=>e = .returned (.slice none 0 0)∧w'=w:=by
 have d:prog.underlying 42=some (.slice 62):=by rfl
 have g:=fun w a n c h i=>Lib.run_eql_slice_nil w _ _ a n c h i d
 go_wp2
 go_ret
 simp
theorem QC:PC prog fB 19 [.ak 29 []] (· = .ret (.ak 29 [])):=by
 refine PC.CQ ⟨_,func19,rfl,ab⟩ fun c w q p i=>?_
 obtain⟨v,n,rfl,f,j⟩:=i.dP;obtain rfl:=j.fX
 generalize k:AV.ak 29 []=x at f
 cases f<;>cases k
 . rename_i d a _ _ _ _ _ _
   refine(QE a d w).mono ?_
   rintro e h ⟨o,rfl,l,m⟩
   exact⟨m,.ret (.ak 29 []),fun g _=>J5 l,rfl⟩
 . refine (QF w).mono ?_
   rintro e h ⟨rfl,rfl⟩
   exact⟨Below.refl _ _,.ret (.ak 29 []),fun g _=>Rel.fh 29,rfl⟩
theorem QD:af 19 [.ak 29 []] (fun a=>a = .ret (.ak 29 [])):=⟨_,QC,rfl⟩
end Go.Ago
