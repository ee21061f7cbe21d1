/-
  Part B18: lemmas, each with its own conditions.
-/
import Derived.Test.YthaolifcglpkdaaGreatDoorB13
import Derived.Test.YthaolifcglpkdaaGreatDoorB17
set_option maxRecDepth 100000
set_option maxHeartbeats 0
set_option linter.all false
namespace Go.Ago
open Go.Proofs List Nat Tryz
attribute [local irreducible] bA bw aV bp bG wr aZ bF comp DC DP DW DV DY
abbrev gC (n:Int):List AV:=[.int .u8 n]
structure Gu (l:List Int) where
 i:Nat
 acc:List Int
 hi:i≤l.length
 ha:acc.length=bl (l.take i)
 hd:∀n∈acc,48≤n∧n≤57
theorem Ba {n:Int}(h:48≤n∧n≤57):∀x∈[n],48≤x∧x≤57:=by simpa using h
theorem A_ {y:Int}{acc:List Int}{n:Int}(h:∀x∈y::acc,48≤x∧x≤57)(hn:48≤n∧n≤57):∀x∈y::(acc++[n]),48≤x∧x≤57:=by
 intro x hx;rw[<-zc2,zbL] at hx;rcases hx with hx|hx
 . exact h x hx
 . obtain rfl:=zbU.1 hx;exact hn
theorem Gj {d:Int}(h:0≤d∧d≤9):48≤wr .u8 (48+wr .u8 d)∧wr .u8 (48+wr .u8 d)≤57:=by
 have h1:wr .u8 d=d:=Er aa aa;have h2:wr .u8 (48+d)=48+d:=Er aa aa;rw[h1,h2];omega
theorem Ra {l:List Int}(h:∀n∈l,48≤n∧n≤57):tG (l.map fun n=>UInt8.ofNat n.toNat):=by
 intro b hb;obtain⟨n,hn,rfl⟩:=zbG.1 hb;have:=h n hn;have h2:n.toNat<256:=aa;simp only[UInt8.toNat_ofNat'];omega
theorem S7 (f:Fo)(hf:pw f)(s:List UInt8)(hs:(s.length:Int)=f.width):af 243 [f.av,.str s] (fun ae=>∃num:List UInt8,ae = .ret (.str num)∧num.length=bl f.cA∧tG num):=by
 refine zw func243 ?_;have hr:=f.hr;have hl:=hf.d1;have hw:=hf.w;have hwl:=ta f.cA
 conv=>whnf
 refine DW.aO aC aD [1,4,16,17] [] 3000 (fun x:Gu f.cA=>[(18,i64 x.i),(6,i64 (wid (f.cA.take x.i))),(5,fu 1000 1 (x.acc.map gC))]) (fun x=>fq 1000 1 (x.acc.map gC)) [(1000,.slot 5)] (fun x=>f.cA.length+1 - x.i) (⟨0,[],aa,rfl,ag⟩) ?_
 conv=>whnf
 refine⟨?_,fun x=>?_⟩
 . conv => whnf
   (exact nV)
 obtain⟨i,acc,hi,ha,hd⟩:=x;rcases acc with _|⟨y,acc⟩
 . skip
   refine zk ?_
   repeat' ((first|refine zf ?_|(refine zp ?_ ?_<;>first|exact⟨⟩|intro h)|(obtain⟨r,he,hrm,s1,s2,s3,s4,s5,s6,s7⟩:=D9 (l:=f.cA) (i:=i) aa;refine az.mk _ he ?_;clear he)|(refine DC.pure rfl (NB _) ?_;rintro _ ⟨dg,x1,x2,rfl,hdg⟩))<;>refine zk ?_)
   all_goals first|(refine⟨⟨i+1,[],aa,gH,hd⟩,?_,rfl,?_⟩<;>first|((conv=>whnf);(exact nV);done)|omega|(dsimp only;omega))|(refine⟨⟨i+1,[((s.getD ((wid (f.cA.take i):Int)).toNat 0).toNat:Int)],aa,gH,Ba ⟨aa,aa⟩⟩,?_,rfl,?_⟩<;>first|((conv=>whnf);(exact nV);done)|omega|(dsimp only;omega))|(refine⟨⟨i+1,[wr .u8 (48+wr .u8 dg)],aa,gH,Ba (Gj hdg)⟩,?_,rfl,?_⟩<;>first|((conv=>whnf);(exact nV);done)|omega|(dsimp only;omega))|(refine⟨⟨i+1,[48],aa,gH,Ba ⟨aa,aa⟩⟩,?_,rfl,?_⟩<;>first|((conv=>whnf);(exact nV);done)|omega|(dsimp only;omega))|(exfalso;rw[zbj aa] at ha;simp only[zbp] at ha;omega)|skip
 . simp only [zbd] at ha
   have hdd:bl (f.cA.take i)≤bl f.cA:=((zc7 _ _).filter _).length_le;refine zk ?_
   repeat' ((first|refine zf ?_|(refine Rq.mk (eP 1 64 ag rfl rfl qW ab) ?_)|(refine zp ?_ ?_<;>first|exact⟨⟩|intro h)|(obtain⟨r,he,hrm,s1,s2,s3,s4,s5,s6,s7⟩:=D9 (l:=f.cA) (i:=i) aa;refine az.mk _ he ?_;clear he)|(refine DC.pure rfl (NB _) ?_;rintro _ ⟨dg,x1,x2,rfl,hdg⟩)|(refine az.mk _ (by erw [vp ag];exact uf (l:=y::acc)) ?_))<;>refine zk ?_)
   all_goals first|(refine⟨⟨i+1,y::acc,aa,gH,hd⟩,?_,rfl,?_⟩<;>first|((conv=>whnf);(exact nV);done)|omega|(dsimp only;omega))|(refine⟨⟨i+1,y::(acc++[((s.getD ((wid (f.cA.take i):Int)).toNat 0).toNat:Int)]),aa,gH,A_ hd ⟨aa,aa⟩⟩,?_,rfl,?_⟩<;>first|((conv=>whnf);(exact nV);done)|omega|(dsimp only;omega))|(refine⟨⟨i+1,y::(acc++[wr .u8 (48+wr .u8 dg)]),aa,gH,A_ hd (Gj hdg)⟩,?_,rfl,?_⟩<;>first|((conv=>whnf);(exact nV);done)|omega|(dsimp only;omega))|(refine⟨⟨i+1,y::(acc++[48]),aa,gH,A_ hd ⟨aa,aa⟩⟩,?_,rfl,?_⟩<;>first|((conv=>whnf);(exact nV);done)|omega|(dsimp only;omega))|exact⟨_,rfl,(by rw[zbj aa] at ha;simpa using ha),Ra hd⟩|skip
end Go.Ago
