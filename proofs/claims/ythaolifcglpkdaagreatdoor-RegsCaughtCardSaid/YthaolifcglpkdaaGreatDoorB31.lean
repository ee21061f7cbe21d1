/-
  Part B31: lemmas, each with its own conditions.
-/
import Derived.Test.YthaolifcglpkdaaGreatDoorB30
set_option maxRecDepth 100000
set_option maxHeartbeats 0
set_option linter.all false
namespace Go.Ago
open Go.Proofs List Nat Tryz
attribute [local irreducible] bA bw aV bp bG wr aZ bF comp DC DP DW DV
attribute [local irreducible] du ct aL cE dE dm dR dL
def gL (i:Ins):List (UInt8×Bool):=[(68,aV i.d (-1)),(65,aV i.a (-1)),(66,aV i.b (-1)),(76,aV ((i.l.l.map fun n=>[i64 n]).length:Int) 0),(84,(eU false (i.t.kind == 0 && (i.t.p == 0 && (i.t.q == 0 && (i.t.fz == false && (i.t.eA == [] && true))))))),(85,(eU false (i.u.kind == 0 && (i.u.p == 0 && (i.u.q == 0 && (i.u.fz == false && (i.u.eA == [] && true))))))),(87,(eU false (i.w.kind == 0 && (i.w.p == 0 && (i.w.q == 0 && (i.w.fz == false && (i.w.eA == [] && true))))))),(78,aV i.n 0),(77,aV i.m 0),(80,aV i.p 0),(86,eU false (i.v.n == 0 && (i.v.s == [] && true))),(70,aV ((i.f.l.map Fm.cells).length:Int) 0),(89,aV ((i.y.l.map Ty.cells).length:Int) 0),(83,!i.size),(82,!i.range)]
abbrev G4 (x:UInt8×Bool):List AV:=[.str [x.1],.bool x.2]
theorem G5 {i:Ins}:(gL i).length=15:=rfl
def ir (i:Ins):Prop:=(1≤i.op∧i.op≤38)∧∀x∈gL i,x.2=true∨hasB i.op x.1=true
def qX (i:Ins)(n:Nat):Prop:=(1≤i.op∧i.op≤38)∧∀x∈(gL i).take n,x.2=true∨hasB i.op x.1=true
theorem qX.step {i:Ins}{n:Nat}(h:qX i n)(hn:n<(gL i).length)(hx:(gL i)[n].2=true∨hasB i.op (gL i)[n].1=true):qX i (n+1):=⟨h.1,fun x hm=>by
 rw[zbi hn] at hm;rcases zbL.1 hm with hm|hm
 . exact h.2 x hm
 . rw[zbU.1 hm];exact hx⟩
theorem qX.all {i:Ins}{n:Nat}(h:qX i n)(hn:15≤n):ir i:=⟨h.1,fun x hm=>h.2 x (by rw[zbj (by rw[G5];exact hn)];exact hm)⟩
theorem ir.not {i:Ins}{n:Nat}(hn:n<(gL i).length)(h1:(gL i)[n].2=false)(h2:hasB i.op (gL i)[n].1=false):¬ir i:=fun h=>by
 rcases h.2 _ (za9 hn) with h3|h3
 . rw[h1] at h3;cases h3
 . rw[h2] at h3;cases h3
theorem Sp {i:Ins}{n:Nat}(hn:n<(gL i).length):((gL i).map G4)[0+((n:Int)).toNat]? = some (G4 (gL i)[n]):=by simp[hn]
theorem OM (i:Ins):af 55 [i.av] (cc fun x=>x=true↔ir i):=by
 refine zw func55 ?_;have hl:=i.l.h
 conv=>whnf
 repeat' ((first|refine Rq.mk (b:=gJ _ _ _ _ _ _) aG ?_|refine Br.split (fun h=>?_) (fun h=>?_)<;>(try simp only[bz] at h)<;>try (exfalso;omega)|refine And.intro (a:=iX _=true) aG (kZ.l ?_))<;>conv=>whnf)
 all_goals first|(refine⟨_,rfl,fun h2=>(by cases h2),fun h2=>?_⟩;have:=h2.1;omega)|skip
 refine DW.aO aC aD [1,2,81,82] [] 0 (fun n:{n:Nat // qX i n}=>[(83,i64 n.1)]) (fun _=>[]) [] (fun n=>16 - n.1) (⟨0,⟨aa,aa⟩,fun x hx=>(by cases hx)⟩) ?_
 refine zl fun n=>?_
 rcases n with⟨n,hn⟩
 have hf15:=@G5 i;refine zk ?_
 repeat' ((first|(refine zp ?_ ?_<;>first|exact⟨⟩|intro h)|(refine DC.pure rfl (B4 _ _) ?_;rintro _ rfl)|refine bR (Sp (i:=i) (n:=n) aa) ?_)<;>refine zk ?_)
 all_goals first|(refine⟨_,rfl,fun h2=>(by cases h2),fun h2=>?_⟩;exact absurd h2 (ir.not (n:=n) aa bD bD))|(refine⟨_,rfl,fun _=>hn.all aa,fun _=>rfl⟩)|(refine⟨⟨n+1,hn.step aa (by first|exact .inl bD|exact .inr bD)⟩,(by(conv=>whnf);(exact o8)),rfl,eY⟩)
end Go.Ago
