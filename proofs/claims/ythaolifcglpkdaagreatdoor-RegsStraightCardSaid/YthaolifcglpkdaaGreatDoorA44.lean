/-
  Part 44: lemmas, each with its own conditions.
-/
import Derived.Test.YthaolifcglpkdaaGreatDoorA43
set_option maxRecDepth 100000
set_option maxHeartbeats 0
set_option linter.all false
namespace Go.Ago
open Go.Proofs Go.RowKit
theorem ybw (a:Addr)(c:Nat)(w:World):Calls Tryz.prog 19 #[.slice (some a) 0 c] w fun e w'=>∃v',e = .returned v'∧w'.ownsRow w.heap.size 62 29 v' 0 []∧Below w.heap.size w w':=by
 have t42:Tryz.prog.underlying 42=some (.slice 62):=by kernel_rfl
 obtain⟨i0,z0,hi,hz0,hzs,hz1,hz2⟩:∃i0 z,Tryz.prog.info? 62=some i0∧i0.zero=some z∧z.cells.size=29∧i0.size=29∧i0.bytes=304:=by
  have h:(Tryz.prog.info? 62).map (fun i=>(i.zero.map fun z=>z.cells.size,i.size,i.bytes))=some (some 29,29,304):=by kernel_rfl
  cases e:Tryz.prog.info? 62 with
  | none=>rw[e] at h;cases h
  | some i0 =>
    rw[e] at h;simp only[Option.map_some,Option.some.injEq,Prod.mk.injEq] at h;cases ez:i0.zero with
    | none=>rw[ez] at h;cases h.1
    | some z=>rw[ez] at h;simp only[Option.map_some,Option.some.injEq] at h;exact⟨i0,z,rfl,ez,h.1,h.2.1,h.2.2⟩
 have q42:∀(w:World) (a:Option Addr) (n c n' c':Nat),(binOp .eql 42 (.slice a n c) (.slice none n' c')).run Tryz.prog w = .ok (.bool a.isNone) w:=fun w a n c n' c'=>Lib.run_eql_slice_nil w _ _ a n c n' c' t42
 have u42:∀w,Sem.run Tryz.prog (underlying 42) w = .ok (TypeDesc.slice 62) w:=run_underlying t42
 go_enter Tryz.func19,Tryz.ntmps19
 go_wp2_with (at_builtin;refine wpList_append_own _ rfl _ _ 42 rfl w.heap.size 62 i0 z0 29 304 t42 hi hz0 hz1 hz2 hzs (by decide) _ _ _ rfl (World.ownsRow_made w #[] 0 (Nat.le_refl _) (Nat.zero_le _) rfl) a 0 c [] rfl rfl (by intro j u hj;simp at hj) (by intro u hu;cases hu) (by unfold maxLen;omega) (by omega) (by simp) ?_)
 intro v' w1 hown hgrow hnil
 go_wp2
 go_ret
 refine⟨v',rfl,by simpa using hown,?_⟩
 exact((Below.refl _ w).alloc (Nat.le_refl _) _).grown hgrow (by simp) (by intro k hk;simp[Value.ownBlock] at hk;omega)
theorem ybv (w:World):Calls Tryz.prog 19 #[.slice none 0 0] w fun e w'=>e = .returned (.slice none 0 0)∧w'=w:=by
 have t42:Tryz.prog.underlying 42=some (.slice 62):=by kernel_rfl
 have q42:∀(w:World) (a:Option Addr) (n c n' c':Nat),(binOp .eql 42 (.slice a n c) (.slice none n' c')).run Tryz.prog w = .ok (.bool a.isNone) w:=fun w a n c n' c'=>Lib.run_eql_slice_nil w _ _ a n c n' c' t42
 go_enter Tryz.func19,Tryz.ntmps19
 go_wp2
 go_ret
 exact⟨rfl,rfl⟩
theorem yby:PC Tryz.prog ERg 19 [.rsl 29 []] (· = .ret (.rsl 29 [])):=by
 refine zkg ⟨_,Tryz.func19,rfl,by decide⟩ fun c w vs hw hr=>?_
 obtain⟨v,us,rfl,h1,h2⟩:=hr.inv_cons;obtain rfl:=h2.inv_nil
 generalize hx:AV.rsl 29 []=x at h1
 cases h1<;>cases hx
 · rename_i cap a _ _ _ _ _ _
   refine(ybw a cap w).mono ?_
   rintro e w' ⟨v',rfl,h3,h4⟩
   exact⟨h4,.ret (.rsl 29 []),fun c' _=>zu1 h3,rfl⟩
 · refine (ybv w).mono ?_
   rintro e w' ⟨rfl,rfl⟩
   exact⟨Below.refl _ _,.ret (.rsl 29 []),fun c' _=>Rel.rnil 29,rfl⟩
theorem ybx:DPR 19 [.rsl 29 []] (fun ae=>ae = .ret (.rsl 29 [])):=⟨_,yby,rfl⟩
end Go.Ago
