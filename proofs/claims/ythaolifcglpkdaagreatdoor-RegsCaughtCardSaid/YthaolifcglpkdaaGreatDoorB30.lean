/-
  Part B30: lemmas, each with its own conditions.
-/
import Derived.Test.YthaolifcglpkdaaGreatDoorB29
set_option maxRecDepth 100000
set_option maxHeartbeats 0
set_option linter.all false
section
namespace Go.Ago
open Go.Proofs List Nat Tryz
def lY (k:Kc)(i:Ins)(d a b:Prop):Prop:=
 (i.op=22∧d∧(8≤i.n∧i.n≤65536)∧i.n.tmod 8=0∧kA k i.a i.m) ∨
 (i.op=23∧a∧kA k i.b i.m) ∨
 ((i.op=24∨i.op=25)∧0≤i.n∧i.n≤(k.c.p.dv.l.length:Int) - 1) ∨
 (i.op=26∧d∧0≤i.n∧i.n≤(k.c.p.dv.l.length:Int) - 1) ∨
 (i.op=27∧l8 k.c.p i.p ⟨[2],ag⟩=true∧(0≤i.n∧i.n≤99)∧(lD i.f).1=true∧(i.l.l.length:Int)=i.y.l.length∧(i.l.l.length:Int)≤16∧qT i.y=false∧((lD i.f).2=true∨i.f.l.length=0∨i.l.l.length=0)) ∨
 (i.op=28∧d∧l8 k.c.p i.p ⟨[1],ag⟩=true∧(0≤i.n∧i.n≤15)∧(lD i.f).1=true∧((lD i.f).2=true∨i.f.l.length=0)∧nG i.t=true∧cE k k.proc i.m) ∨
 (i.op=29∧d∧l8 k.c.p i.p ⟨[3],ag⟩=true∧((i.a = -1∧(eU false (i.u.kind == 0 && (i.u.p == 0 && (i.u.q == 0 && (i.u.fz == false && (i.u.eA == [] && true)))))=true))∨(a∧l5 i.u=true))∧l5 i.t=true∧cE k k.proc i.m) ∨
 (i.op=30∧(18≤i.n∧i.n≤20)∧l8 k.c.p i.p ⟨[3],ag⟩=true∧a∧l5 i.u=true∧((i.n=20∧i.b = -1∧(eU false (i.w.kind == 0 && (i.w.p == 0 && (i.w.q == 0 && (i.w.fz == false && (i.w.eA == [] && true)))))=true))∨(i.n≠20∧b∧l5 i.w=true))) ∨
 (i.op=31∧a∧b∧(16≤i.n∧i.n≤4096)∧(16≤i.m∧i.m≤4096)) ∨
 ((i.op=32∨i.op=33)∧d∧a∧b∧(16≤i.n∧i.n≤4096)) ∨
 ((i.op=34∨i.op=35∨i.op=36)∧d)∨i.op=37
end Go.Ago
namespace Go.Ago
open Go.Proofs List Nat Tryz
attribute [local irreducible] bA bw aV bp bG wr aZ bF comp DC DP DW DV
attribute [local irreducible] du ct aL cE dE dm dR dL nM nG l5 pO np oR l8 n_ lD qT oM mB nN n6 mP kA lh lS fV mm
theorem ZL (k:Kc)(m:0≤fg k∧fg k≤4000)(i:Ins)(d a b:Bool):af 107 [k.av,i.av,.bool d,.bool a,.bool b] (cc fun x=>x=true↔lY k i (d=true) (a=true) (b=true)):=by
 refine zw func107 ?_;have u:=k.c.p.procs.h;have t:=k.c.b.h;have n:=k.c.p.files.h;have o:=k.c.p.dv.h;have q:=k.c.p.conds.h;have r:=k.fQ;have s:=k.hlen;refine zg ?_
 repeat' ((first|(refine zp ?_ ?_<;>intro h)|(refine DC.pure rfl (DP.dec (Ou k m _ _)) ?_;rintro _ (⟨rfl,g⟩|⟨rfl,g⟩))|(refine DC.pure rfl (qg _ _ _) ?_;rintro _ (⟨rfl,e⟩|⟨rfl,e⟩))|(refine DC.pure rfl (Sq i.f) ?_;rintro _ rfl)|(refine DC.flat rfl (Bv k.c.p _ ⟨[2],by(show 1<_;decide)⟩) ?_;rintro _ rfl<;>refine⟨rfl,?_⟩)|(refine DC.flat rfl (Bv k.c.p _ ⟨[1],by(show 1<_;decide)⟩) ?_;rintro _ rfl<;>refine⟨rfl,?_⟩)|(refine DC.flat rfl (Bv k.c.p _ ⟨[3],by(show 1<_;decide)⟩) ?_;rintro _ rfl<;>refine⟨rfl,?_⟩)|(refine DC.pure rfl (Z6 i.y) ?_;rintro _ rfl)|(refine DC.pure rfl (JD _) ?_;rintro _ rfl)|(refine DC.pure rfl (Qa _) ?_;rintro _ rfl)|(refine DC.pure rfl (HN k _ _ aa) ?_;rintro _ (⟨rfl,j⟩|⟨rfl,j⟩)))<;>refine zg ?_)
 all_goals (refine⟨_,rfl,?_⟩;(try simp only[zba] at *);(try rw[aE aa aa] at e);unfold lY;first|(grind;done)|(simp_all;done)|(simp_all;omega))
end Go.Ago
end
