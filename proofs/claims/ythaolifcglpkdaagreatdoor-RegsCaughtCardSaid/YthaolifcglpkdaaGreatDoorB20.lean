/-
  Part B20: lemmas, each with its own conditions.
-/
import Derived.Test.YthaolifcglpkdaaGreatDoorB19
set_option maxRecDepth 100000
set_option maxHeartbeats 0
set_option linter.all false
namespace Go.Ago
open Go.Proofs List Nat Tryz
attribute [local irreducible] bA bw aV bp bG wr aZ bF comp DC DP DW DV DY
theorem zaU (f:Fo)(hf:pw f)(num:List UInt8)(hn:num.length=bl f.cA):af 245 [f.av,.str num,.bool false] (fun ae=>∃(s:List UInt8) (n:Int),ae = .ret (.ao [.str s,i64 n])):=by
 refine zw func245 ?_;have hr:=f.hr;have hs:=f.hs;have hw:=hf.w;have hfl:=hf.l;have hwl:=ta f.cA;have hdl:=hf.d1;have w0:wid [0]=1:=rfl;have w1:wid [1]=1:=rfl;have w2:wid [2]=0:=rfl;have w3:wid [3]=1:=rfl;have w4:wid [4]=1:=rfl;have w5:wid [5]=1:=rfl;have d0:bl [0]=1:=rfl;have d1:bl [1]=1:=rfl;have d2:bl [2]=0:=rfl;have d3:bl [3]=0:=rfl;have d4:bl [4]=0:=rfl;have d5:bl [5]=0:=rfl;have hfe:=Gt f.fill;have hwd:0≤f.width∧f.width≤1000:=aa;refine zg ?_
 repeat' ((first|(refine zp ?_ ?_<;>first|exact⟨⟩|intro h)|(refine DC.flat rfl (Gw f hf num hn _ 0 0 0) ?_;rintro _ ⟨ld,rfl,hld0,hld1⟩;refine⟨rfl,?_⟩)|(refine zh rfl (Kb _ _ hfe hwd) ?_;rintro _ rfl))<;>refine zg ?_)
 all_goals first|exact⟨_,_,rfl⟩|skip
 refine DW.aO aC aD [0,2,6,7,8,9,49,50] [6] 3000 (fun x:Wr f.cA=>[(51,i64 x.i),(10,fu 1000 1 (x.acc.map gC))]) (fun x=>(6,yc f num false x.u (wid (f.cA.take x.i)) ld)::fq 1000 1 (x.acc.map gC)) [(1000,.slot 10)] (fun x=>f.cA.length+1 - x.i) (⟨0,[],0,aa,rfl,ag⟩) ?_
 conv=>whnf
 refine⟨?_,fun x=>?_⟩
 . conv => whnf
   (exact Ev)
 obtain⟨i,acc,u,hi,ha,hu⟩:=x;have hu1:wr .i64 (u+1)=u+1:=aE tr tr;have hu2:wr .i64 (u+1 - 1)=u:=by rw[aE aa tr];omega
 have hful:i=f.cA.length->wid (f.cA.take i)=wid f.cA:=fun h=>by rw[zbj aa]
 have hdw:=Gm f.cA;rcases acc with _|⟨y,acc⟩
 . simp only [zbp] at ha
   refine zk ?_
   repeat' ((first|refine zf ?_|(refine Rq.mk (by simp only[hu1,hu2,hY,zbz];omega) ?_)|(refine zp ?_ ?_<;>first|exact⟨⟩|intro h)|(obtain⟨r,he,hrm,s1,s2,s6,s7⟩:=zc (l:=f.cA) (i:=i) aa;refine az.mk _ he ?_;clear he;rcases yF (hf.r r hrm) with⟨rfl,mk9⟩|⟨rfl,mk9⟩|⟨rfl,mk9⟩|⟨rfl,mk9⟩|⟨rfl,mk9⟩|⟨rfl,mk9⟩)|refine zd func289 ?_|refine zd func290 ?_|refine zd func291 ?_|refine zd func292 ?_|refine zd func293 ?_|(have mk7:=Mk.mk 7;refine zd func324 ?_)|(refine DC.pure rfl (yl _ _) ?_;rintro _ ⟨pc,pb,rfl⟩))<;>refine zk ?_)
   all_goals first|(rename Mk 2=>m9;refine⟨⟨i+1,[],u,aa,gH,aa⟩,kX,rfl,eY⟩)|(rename Mk 7=>m7;refine⟨⟨i+1,[_],u+1,aa,gH,aa⟩,kX,rfl,eY⟩)|(refine⟨⟨i+1,[_],u,aa,gH,aa⟩,kX,rfl,eY⟩)
 . simp only [zbd] at ha
   have hldw:wr .i64 (ld - 1)=ld - 1:=aE aa aa;refine zj ?_
   repeat' ((first|refine zf ?_|(refine Rq.mk (eP 1 64 ag rfl rfl qW ab) ?_)|(refine Rq.mk (by simp only[hu1,hu2,hY,zbz];omega) ?_)|(refine Rq.mk (by rw[hldw];simp only[hY,zba,zbz];omega) ?_;rw[hldw])|(refine Rq.mk (by simp only[zbP,zbd,zba,ble_eq];omega) ?_)|refine zq ?_|(refine zp ?_ ?_<;>first|exact⟨⟩|intro h)|(obtain⟨r,he,hrm,s1,s2,s6,s7⟩:=zc (l:=f.cA) (i:=i) aa;refine az.mk _ he ?_;clear he;rcases yF (hf.r r hrm) with⟨rfl,mk9⟩|⟨rfl,mk9⟩|⟨rfl,mk9⟩|⟨rfl,mk9⟩|⟨rfl,mk9⟩|⟨rfl,mk9⟩)|(refine az.mk _ (by erw [vp ag];exact uf (l:=y::acc)) ?_)|refine az.mk _ (Fg (l:=y::acc) ag) ?_|(erw [Js (y:=y) (acc:=acc) (k:=ld - 1) (by simp only[zbd];omega)])|refine zd func289 ?_|refine zd func290 ?_|refine zd func291 ?_|refine zd func292 ?_|refine zd func293 ?_|(have mk7:=Mk.mk 7;refine zd func324 ?_)|(refine DC.pure rfl (yl _ _) ?_;rintro _ ⟨pc,pb,rfl⟩)|(refine DV.flat rfl (Lb f num _ _ _ _ _) ?_;rintro _ ⟨n9,rfl⟩;refine⟨_,rfl,rfl,?_⟩))<;>refine zj ?_)
   all_goals first|(rename Mk 2=>m9;refine⟨⟨i+1,y::acc,u,aa,gH,aa⟩,kX,rfl,eY⟩)|(rename Mk 7=>m7;refine⟨⟨i+1,y::(acc++[_]),u+1,aa,gH,aa⟩,kX,rfl,eY⟩)|(refine⟨⟨i+1,y::(acc++[_]),u,aa,gH,aa⟩,kX,rfl,eY⟩)|exact⟨_,_,rfl⟩
end Go.Ago
