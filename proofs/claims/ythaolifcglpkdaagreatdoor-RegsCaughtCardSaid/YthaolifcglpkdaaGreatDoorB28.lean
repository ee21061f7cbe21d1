/-
  Part B28: lemmas, each with its own conditions.
-/
import Derived.Test.YthaolifcglpkdaaGreatDoorB25
set_option maxRecDepth 100000
set_option maxHeartbeats 0
set_option linter.all false
namespace Go.Ago
open Go.Proofs List Nat Tryz
attribute [local irreducible] bA bw aV bp bG wr aZ bF comp DC DP DW DV DY
structure EM (c:Ck)(kind:Int)(r e:BL (List AV)):Prop where
 h2:kind=2->r.l.length=1∧e.l.length=1
 h4:kind=4->e.l.length=1
 uD:kind=11->1≤r.l.length
 h7:kind=7->∃h:c.proc.toNat<c.p.procs.l.length,e.l.length=(c.p.procs.l[c.proc.toNat]'h).lK.l.length
theorem YI (c:Ck)(a v:Int)(r e:BL (List AV))(n p w:Int)(f:BL Fm)(k:Int)(size g:Bool):af 181 [c.av,.agg [i64 a,i64 v,.ak 11 r.l,.ak 11 e.l,i64 n,i64 p,i64 w,l_ f.l,i64 k,.bool size,.bool g]] (fun u=>(u = .ret (.bool true)∧EM c a r e)∨u = .ret (.bool false)):=by
 by_cases D:1≤a∧a≤22
 . rcases (show a = 1 ∨ a = 2 ∨ a = 3 ∨ a = 4 ∨ a = 5 ∨ a = 6 ∨ a = 7 ∨ a = 8 ∨ a = 9 ∨ a = 10 ∨ a = 11 ∨ a = 12 ∨ a = 13 ∨ a = 14 ∨ a = 15 ∨ a = 16 ∨ a = 17 ∨ a = 18 ∨ a = 19 ∨ a = 20 ∨ a = 21 ∨ a = 22 by omega) with rfl | rfl | rfl | rfl | rfl | rfl | rfl | rfl | rfl | rfl | rfl | rfl | rfl | rfl | rfl | rfl | rfl | rfl | rfl | rfl | rfl | rfl
   all_goals
    refine zw func181 ?_;have C:=c.p.procs.h;have s:=c.p.dv.h;have d:=c.fQ;have q:=r.h;have o:=e.h;have y:wr .i64 0=0:=aE ab ab;have z:wr .i64 1=1:=aE ab ab;have A:wr .i64 2=2:=aE ab ab;refine zg ?_
    repeat' ((first|(refine Br.t (b:=aV (dU _ _ _ _) _) (by rw[mZ];decide) ?_)|(refine Br.f (b:=aV (dU _ _ _ _) _) (by rw[wO];decide) ?_)|(refine zp ?_ ?_<;>first|exact⟨⟩|intro h)|(refine DC.pure rfl (tf _ _ _) ?_;rintro _ (⟨rfl,i⟩|⟨rfl,i⟩))|(refine zh rfl (o4 _ _ mD) ?_;rintro _ (⟨rfl,m⟩|⟨rfl,m⟩)<;>simp only[zba] at m)|(refine zh rfl (Eh c.p c.hp _ _ d.2) ?_;rintro _ ⟨E,rfl,-⟩)|(refine zh rfl (JF c _ _ d) ?_;rintro _ ⟨B,rfl,-⟩)|(refine zh rfl (JF c _ _ aa) ?_;rintro _ ⟨B,rfl,-⟩)|(refine DC.pure rfl (Z4 c _ _ _) ?_;rintro _ ⟨F,rfl,-⟩)|(refine DC.pure rfl (PI c _ _) ?_;rintro _ ⟨G,rfl,-⟩)|(refine DC.pure rfl (yZ _ _) ?_;rintro _ ⟨H,rfl,-⟩)|(refine DC.pure rfl (GW c _ _) ?_;rintro _ ⟨I,rfl,-⟩)|(refine DC.pure rfl (PJ f _) ?_;rintro _ ⟨x,rfl,-⟩)|refine zo ?_)<;>refine zg ?_)
    all_goals first|exact .inr rfl|exact .inl ⟨rfl,⟨aa,aa,aa,aa⟩⟩|exact .inl ⟨rfl,⟨aa,aa,aa,fun _=>⟨aa,aa⟩⟩⟩
 . refine zw func181 ?_
   have C:=c.p.procs.h;have s:=c.p.dv.h;have d:=c.fQ;have q:=r.h;have o:=e.h;have y:wr .i64 0=0:=aE ab ab;have z:wr .i64 1=1:=aE ab ab;have A:wr .i64 2=2:=aE ab ab;refine zg ?_
   repeat' ((refine DC.pure rfl (tf _ _ _) ?_;rintro _ (⟨rfl,i⟩|⟨rfl,i⟩))<;>refine zg ?_)
   all_goals first|exact .inr rfl|(exfalso;omega)
end Go.Ago
