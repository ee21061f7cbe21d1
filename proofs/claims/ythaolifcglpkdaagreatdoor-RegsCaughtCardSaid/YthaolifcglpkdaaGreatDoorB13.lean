/-
  Part B13: lemmas, each with its own conditions.
-/
import Derived.Test.YthaolifcglpkdaaGreatDoorB12
set_option maxRecDepth 100000
set_option maxHeartbeats 0
set_option linter.all false
namespace Go.Ago
open Go.Proofs List Nat Tryz
attribute [local irreducible] bA bw aV bp bG wr aZ bF comp DC DP DW DV DY
theorem yJ {α:Type}{f:α->List AV}{ρ:Nat->Nat}(hf:∀x,(f x).map (AV.r1 ρ)=f x){y:α}{acc:List α}:f y::acc.map f=(f y::acc.map f).map (List.map (AV.r1 ρ)):=by
 simp[hf,zcA]
theorem Fb {a b:Nat}:(blt a b=false)=(b≤a):=by
 apply propext
 constructor
 . intro h
   rcases zbI a b with h1|h1
   . rw[show blt a b=true from zbs h1] at h;cases h
   . exact h1
 . intro h
   cases e:blt a b with
   | false=>rfl
   | true=>have:=zbb e;omega
theorem RS (s:List UInt8)(hs:s.length<281474976710656):af 238 [.str s] (fun ae=>∃(r:List UInt8) (b:Bool),ae = .ret (.ao [.str r,.bool b])∧(b=true->r.length≤32∧1≤r.length∧kB r)):=by
 refine zw func238 ?_
 conv=>whnf
 refine DW.aO aC aD [2,3,7,11] [7] 2000 (fun x:NV s=>[(4,fu 1000 1 (x.acc.map fun n=>[AV.int .u8 n])),(5,i64 x.st),(6,i64 x.n)]) (fun x=>(7,.dJ s x.pos)::fq 1000 1 (x.acc.map fun n=>[AV.int .u8 n])) [(1000,.slot 4)] (fun x=>s.length - x.pos) (⟨0,0,0,[],aa,aa,aa,(fun _ h=>absurd h ag),ag⟩) ?_
 conv=>whnf
 refine⟨?_,fun x=>?_⟩
 . conv => whnf
   (exact gz)
 obtain⟨pos,st,n,acc,dy,hn,h2,ha,hl⟩:=x;have hc0:=Q3 s pos;have hc1:=Q2 s pos;have hw1:wr .i32 (jK s pos - 32)=jK s pos - 32:=NK aa aa;have hdw:=Q4 s pos;rcases acc with _|⟨y,acc⟩
 . skip
   refine zg ?_
   repeat' ((first|(refine Br.split (b:=blt pos s.length) (fun h=>?_) (fun h=>?_)<;>(simp only[blt_eq,Fb] at h))|(refine zp ?_ ?_<;>first|exact⟨⟩|intro h)|(refine DC.pure rfl (kh _ _) ?_;rintro _ rfl)|(refine DC.pure rfl (Kd n _ hn) ?_;rintro _ ⟨m1,b1,rfl,hb1⟩)|refine zd func270 ?_)<;>refine zg ?_)
   all_goals first|exact⟨_,_,rfl,fun h=>absurd h ab⟩|(refine⟨⟨pos+hP s pos,2,n,[],aa,aa,aa,ha,hl⟩,?_,rfl,?_⟩<;>first|((conv=>whnf);(exact gz);done)|(dsimp only;omega))|(refine⟨⟨pos+hP s pos,st,m1,[],aa,by have:=hb1 bD;omega,aa,ha,hl⟩,?_,rfl,?_⟩<;>first|((conv=>whnf);(exact gz);done)|(dsimp only;omega))|(refine⟨⟨pos+hP s pos,1,0,[],aa,aa,aa,ha,hl⟩,?_,rfl,?_⟩<;>first|((conv=>whnf);(exact gz);done)|(dsimp only;omega))|skip
   all_goals first|exact⟨_,_,rfl,fun _=>⟨by simpa using hl,ag,E1 ha⟩⟩|skip
   all_goals
    refine DW.aO aC aD [1,6,7,31] [1000] 3000 (fun z:EJ 0=>[(0,fu 4000 1 (z.l.map fun n=>[AV.int .u8 n])),(32,i64 z.j)]) (fun z=>fq 4000 1 (z.l.map fun n=>[AV.int .u8 n])) [(4000,.slot 0)] (fun z=>40 - z.j) (⟨0,[],ag,by simpa using hl,ha⟩) ?_
    conv=>whnf
    refine⟨?_,fun z=>?_⟩
    . conv => whnf
      (exact gz)
    first|rw[aE (by(try simp only[zbd] at *);omega) (by(try simp only[zbd] at *);omega)] at h|skip
    obtain⟨zj,zl,zhl,zhj,zha⟩:=z;rcases zl with _|⟨w1,zl⟩
    . skip
      refine zg ?_
      repeat' ((first|refine zf ?_|(refine zp ?_ ?_<;>first|exact⟨⟩|intro h))<;>refine zg ?_)
      all_goals first|(refine⟨⟨zj+1,[wr .u8 (jK s pos)],tj,tA,rX zha aa⟩,?_,rfl,?_⟩<;>first|((conv=>whnf);(exact gz);done)|(dsimp only;omega))|(refine⟨⟨zj+1,[wr .u8 (wr .i32 (jK s pos - 32))],tj,tA,rX zha aa⟩,?_,rfl,?_⟩<;>first|((conv=>whnf);(exact gz);done)|(dsimp only;omega))|(refine⟨⟨pos+hP s pos,0,n,[],aa,aa,aa,zha,tz⟩,?_,rfl,?_⟩<;>first|((conv=>whnf);(exact gz);done)|(dsimp only;omega))|(refine⟨⟨pos+hP s pos,st,n,[],aa,aa,aa,zha,tz⟩,?_,rfl,?_⟩<;>first|((conv=>whnf);(exact gz);done)|(dsimp only;omega))
    . have zm := zhl
      simp only[zbd] at zm
      try simp only[zbd] at zhj
      refine zg ?_
      repeat' ((first|refine zf ?_|(refine Rq.mk (eP 1 64 ag rfl rfl qW ab) ?_)|(refine zp ?_ ?_<;>first|exact⟨⟩|intro h))<;>refine zg ?_)
      all_goals first|(refine⟨⟨zj+1,w1::(zl++[wr .u8 (jK s pos)]),tj,tA,rX zha aa⟩,?_,rfl,?_⟩<;>first|((conv=>whnf);(exact gz);done)|(dsimp only;omega))|(refine⟨⟨zj+1,w1::(zl++[wr .u8 (wr .i32 (jK s pos - 32))]),tj,tA,rX zha aa⟩,?_,rfl,?_⟩<;>first|((conv=>whnf);(exact gz);done)|(dsimp only;omega))|(refine⟨⟨pos+hP s pos,0,n,w1::zl,aa,aa,aa,zha,tz⟩,?_,rfl,?_⟩<;>first|((conv=>whnf);(exact gz);done)|(dsimp only;omega))|(refine⟨⟨pos+hP s pos,st,n,w1::zl,aa,aa,aa,zha,tz⟩,?_,rfl,?_⟩<;>first|((conv=>whnf);(exact gz);done)|(dsimp only;omega))
 . skip
   have hl9:=hl;simp only[zbd] at hl9;refine zk ?_
   repeat' ((first|(refine Br.split (b:=blt pos s.length) (fun h=>?_) (fun h=>?_)<;>(simp only[blt_eq,Fb] at h))|(refine zp ?_ ?_<;>first|exact⟨⟩|intro h)|(refine DC.pure rfl (kh _ _) ?_;rintro _ rfl)|(refine DC.pure rfl (Kd n _ hn) ?_;rintro _ ⟨m1,b1,rfl,hb1⟩)|refine zd func270 ?_|(refine az.mk _ (by erw [vp ag];exact uf (l:=y::acc)) ?_))<;>refine zk ?_)
   all_goals first|exact⟨_,_,rfl,fun h=>absurd h ab⟩|(refine⟨⟨pos+hP s pos,2,n,y::acc,aa,aa,aa,ha,hl⟩,?_,rfl,?_⟩<;>first|((conv=>whnf);(exact gz);done)|(dsimp only;omega))|(refine⟨⟨pos+hP s pos,st,m1,y::acc,aa,by have:=hb1 bD;omega,aa,ha,hl⟩,?_,rfl,?_⟩<;>first|((conv=>whnf);(exact gz);done)|(dsimp only;omega))|(refine⟨⟨pos+hP s pos,1,0,y::acc,aa,aa,aa,ha,hl⟩,?_,rfl,?_⟩<;>first|((conv=>whnf);(exact gz);done)|(dsimp only;omega))|skip
   all_goals first|exact⟨_,_,rfl,fun _=>⟨by simpa using hl,ag,E1 ha⟩⟩|skip
   all_goals
    refine DW.aO aC aD [1,6,7,31] [1000] 3000 (fun z:EJ (y::acc).length=>[(0,fu 4000 1 (z.l.map fun n=>[AV.int .u8 n])),(32,i64 z.j)]) (fun z=>fq 4000 1 (z.l.map fun n=>[AV.int .u8 n])) [(4000,.slot 0)] (fun z=>40 - z.j) (⟨0,y::acc,ag,by simpa using hl,ha⟩) ?_
    conv=>whnf
    refine⟨?_,fun z=>?_⟩
    . conv => whnf
      (exact gz)
    first|rw[aE (by(try simp only[zbd] at *);omega) (by(try simp only[zbd] at *);omega)] at h|skip
    obtain⟨zj,zl,zhl,zhj,zha⟩:=z;rcases zl with _|⟨w1,zl⟩
    . exact absurd zhl (by simp only[zbp,zbd];omega)
    . have zm := zhl
      simp only[zbd] at zm
      try simp only[zbd] at zhj
      refine zg ?_
      repeat' ((first|refine zf ?_|(refine Rq.mk (eP 1 64 ag rfl rfl qW ab) ?_)|(refine zp ?_ ?_<;>first|exact⟨⟩|intro h))<;>refine zg ?_)
      all_goals first|(refine⟨⟨zj+1,w1::(zl++[wr .u8 (jK s pos)]),tj,tA,rX zha aa⟩,?_,rfl,?_⟩<;>first|((conv=>whnf);(exact gz);done)|(dsimp only;omega))|(refine⟨⟨zj+1,w1::(zl++[wr .u8 (wr .i32 (jK s pos - 32))]),tj,tA,rX zha aa⟩,?_,rfl,?_⟩<;>first|((conv=>whnf);(exact gz);done)|(dsimp only;omega))|(refine⟨⟨pos+hP s pos,0,n,w1::zl,aa,aa,aa,zha,tz⟩,?_,rfl,?_⟩<;>first|((conv=>whnf);(exact gz);done)|(dsimp only;omega))|(refine⟨⟨pos+hP s pos,st,n,w1::zl,aa,aa,aa,zha,tz⟩,?_,rfl,?_⟩<;>first|((conv=>whnf);(exact gz);done)|(dsimp only;omega))
end Go.Ago
