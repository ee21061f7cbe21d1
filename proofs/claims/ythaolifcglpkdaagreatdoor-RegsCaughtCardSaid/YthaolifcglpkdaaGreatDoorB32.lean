/-
  Part B32: lemmas, each with its own conditions.
-/
import Derived.Test.YthaolifcglpkdaaGreatDoorB31
set_option maxRecDepth 100000
set_option maxHeartbeats 0
set_option linter.all false
section
namespace Go.Ago
open Go.Proofs List Nat Tryz
def rf (k:Kc)(i:Ins):Prop:=
 (i.op=1∧0≤i.n∧i.n≤9999) ∨
 (i.op=2∧aL k i.d∧nM i.t=true∧pO i.t i.v=0∧(i.t.kind≠6∨i.v.n=0)) ∨
 ((i.op=3∨i.op=38)∧aL k i.d∧aL k i.a) ∨
 (i.op=4∧aL k i.d∧lS k i) ∨
 (i.op=5∧aL k i.a) ∨
 (i.op=6∧aL k i.d∧aL k i.a∧(0≤i.n∧i.n≤65536)) ∨
 (i.op=7∧aL k i.d∧aL k i.a∧aL k i.b∧(-32768≤i.n∧i.n≤i.m)∧i.m≤32767∧(1≤i.p∧i.p≤65536)) ∨
 (i.op=8∧aL k i.d∧aL k i.a∧nM i.t=true) ∨
 (i.op=9∧aL k i.a∧aL k i.b∧nM i.t=true) ∨
 (i.op=10∧aL k i.d∧aL k i.a∧(((i.n=5∨i.n=11)∧i.b = -1∧(eU false (i.w.kind == 0 && (i.w.p == 0 && (i.w.q == 0 && (i.w.fz == false && (i.w.eA == [] && true)))))=true)∧np i.t i.n ⟨[i.u],by(show 1<_;decide)⟩=true)∨(¬(i.n=5∨i.n=11)∧aL k i.b∧(5≤i.n∧i.n≤13)∧np i.t i.n ⟨[i.u,i.w],by(show 2<_;decide)⟩=true))) ∨
 (i.op=11∧aL k i.d∧aL k i.a∧nG i.t=true∧nG i.u=true) ∨
 (i.op=12∧aL k i.d∧((14≤i.n∧i.n≤17)∨(19≤i.n∧i.n≤24))∧(i.l.l.length:Int)=i.y.l.length∧np i.t i.n i.y=true) ∨
 (i.op=13∧aL k i.d∧aL k i.a∧aL k i.b∧(0≤i.n∧i.n≤5)∧(oR 18 i.n ⟨[i.u,i.w],by(show 2<_;decide)⟩).2=0) ∨
 ((i.op<1∨14≤i.op)∧22≤i.op∧i.op≠38∧lY k i (aL k i.d) (aL k i.a) (aL k i.b)) ∨
 ((i.op<1∨(14≤i.op∧i.op<22))∧kE k i (aL k i.a))
def jE (k:Kc)(i:Ins):Prop:=(∀r∈i.l.l,aL k r)∧rf k i
theorem bt {b:Bool}{P:Prop}(hb:b=true↔P)(h:b=true):true=true↔P:=by rw[<-hb,h]
theorem bf {b:Bool}{P:Prop}(hb:b=true↔P)(h:b=false):false=true↔P:=by rw[<-hb,h]
theorem ZM (k:Kc)(hr:0≤fg k∧fg k≤4000)(i:Ins)(d a b:Bool){D A B:Prop}(hd:d=true↔D)(ha:a=true↔A)(hb:b=true↔B):af 107 [k.av,i.av,.bool d,.bool a,.bool b] (cc fun x=>x=true↔lY k i D A B):=by
 have:=ZL k hr i d a b;rw[propext hd,propext ha,propext hb] at this;exact this
theorem QX (k:Kc)(hr:0≤fg k∧fg k≤4000)(i:Ins)(a:Bool){A:Prop}(ha:a=true↔A):af 108 [k.av,i.av,.bool a] (cc fun x=>x=true↔kE k i A):=by
 have:=QW k hr i a;rw[propext ha] at this;exact this
theorem XW {k:Kc}{i:Ins}{b:Bool}(hal:∀r∈i.l.l,aL k r)(h:b=true↔rf k i):∃c,AE.ret (.bool b) = .ret (.bool c)∧(c=true↔jE k i):=⟨b,rfl,h.trans ⟨fun h=>⟨hal,h⟩,(·.2)⟩⟩
theorem XX {k:Kc}{i:Ins}{n:Nat}(hn:n<i.l.l.length)(h:¬aL k i.l.l[n]):∃c,AE.ret (.bool false) = .ret (.bool c)∧(c=true↔jE k i):=⟨false,rfl,fun h=>(by cases h),fun h2=>absurd (h2.1 _ (za9 hn)) h⟩
end Go.Ago
namespace Go.Ago
open Go.Proofs List Nat Tryz
attribute [local irreducible] bA bw aV bp bG wr aZ bF comp DC DP DW DV
attribute [local irreducible] du ct aL cE dE dm dR dL nM nG l5 pO np oR l8 n_ lD qT oM mB nN n6 mP kA lh lS fV mm lY kE
theorem XY (k:Kc)(hr:0≤fg k∧fg k≤4000)(i:Ins):af 56 [k.av,i.av] (cc fun x=>x=true↔jE k i):=by
 refine zw func56 ?_;have hl:=k.c.p.procs.h;have hl2:=k.c.b.h;have hl3:=k.c.p.files.h;have hl4:=k.c.p.dv.h;have hl5:=k.c.p.conds.h;have hpr:=k.fQ;have hle:=k.hlen;have hil:=i.l.h;have hir:=i.y.h
 conv=>whnf
 repeat' ((first|(refine DV.pure rfl (yu k hr i.d) ?_;rintro _ ⟨b1,rfl,hb1⟩<;>refine⟨_,rfl,?_⟩)|(refine DV.pure rfl (yu k hr i.a) ?_;rintro _ ⟨b2,rfl,hb2⟩<;>refine⟨_,rfl,?_⟩)|(refine DV.pure rfl (yu k hr i.b) ?_;rintro _ ⟨b3,rfl,hb3⟩<;>refine⟨_,rfl,?_⟩)|refine And.intro (a:=iX _=true) aG (kZ.l ?_))<;>conv=>whnf)
 refine DW.aO aC aD [2,3,4,5,6,7,25,26] [] 0 (fun n:{n:Nat // LI k i.l.l n}=>[(27,i64 n.1)]) (fun _=>[]) [] (fun n=>i.l.l.length+1 - n.1) (⟨0,LI.nil⟩) ?_
 refine zl fun n=>?_
 refine zg ?_
 repeat' ((first|(refine zp ?_ ?_<;>first|exact⟨⟩|intro h)|(refine DC.pure rfl (Dg k hr _) ?_;rintro _ (⟨rfl,hx⟩|⟨rfl,hx⟩))|(refine DC.pure rfl (qg _ _ _) ?_;rintro _ (⟨rfl,hb4⟩|⟨rfl,hb4⟩))|(refine DC.pure rfl (Yp _) ?_;rintro _ rfl)|(refine DC.pure rfl (Q1 _ i.v) ?_;rintro _ rfl)|(refine DC.pure rfl (ON k i) ?_;rintro _ ⟨b6,rfl,hb6⟩)|(refine DC.flat rfl (Ch _ _ ⟨[i.u],by(show 1<_;decide)⟩) ?_;rintro _ rfl<;>refine⟨rfl,?_⟩)|(refine DC.flat rfl (Ch _ _ ⟨[i.u,i.w],by(show 2<_;decide)⟩) ?_;rintro _ rfl<;>refine⟨rfl,?_⟩)|(refine DC.pure rfl (Ch _ _ i.y) ?_;rintro _ rfl)|(refine DC.pure rfl (JD _) ?_;rintro _ rfl)|(refine DC.flat rfl (XK _ _ ⟨[i.u,i.w],by(show 2<_;decide)⟩) ?_;rintro _ rfl<;>refine⟨rfl,?_⟩)|(refine DC.pure rfl (ZM k hr i _ _ _ (D:=aL k i.d) (A:=aL k i.a) (B:=aL k i.b) (by first|exact hb1|exact bt hb1 bD|exact bf hb1 bD) (by first|exact hb2|exact bt hb2 bD|exact bf hb2 bD) (by first|exact hb3|exact bt hb3 bD|exact bf hb3 bD)) ?_;rintro _ ⟨b10,rfl,hb10⟩)|(refine DC.pure rfl (QX k hr i _ (A:=aL k i.a) (by first|exact hb2|exact bt hb2 bD|exact bf hb2 bD)) ?_;rintro _ ⟨b11,rfl,hb11⟩))<;>refine zg ?_)
 all_goals first|exact zi ⟨n.1+1,LI.step n.2 aa hx⟩|exact XX (n:=n.1) aa hx|(have hal:=LI.all n.2 aa;refine XW hal ?_;unfold rf;first|(grind;done)|(simp_all;done)|(simp_all;omega))
end Go.Ago
end
