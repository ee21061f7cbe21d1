/-
  Part 23: lemmas, each with its own conditions.
-/
import Derived.Test.YthaolifcglpkdaaGreatDoorA22
set_option maxRecDepth 100000
set_option maxHeartbeats 0
set_option linter.all false
namespace Go.Ago
open Go.Proofs
attribute [local irreducible] ltI leI eqI eqS shrI wr inB mmI comp DC DP DW DV DY
abbrev brow (n:Int):List AV:=[.int .u8 n]
structure Gu (l:List Int) where
 i:Nat
 acc:List Int
 hi:i≤l.length
 ha:acc.length=dig (l.take i)
 hd:∀n∈acc,48≤n∧n≤57
theorem ybg {n:Int}(h:48≤n∧n≤57):∀x∈[n],48≤x∧x≤57:=by simpa using h
theorem dg_c {y:Int}{acc:List Int}{n:Int}(h:∀x∈y::acc,48≤x∧x≤57)(hn:48≤n∧n≤57):∀x∈y::(acc++[n]),48≤x∧x≤57:=by
 intro x hx;rw[← List.cons_append,List.mem_append] at hx;rcases hx with hx|hx
 · exact h x hx
 · obtain rfl:=List.mem_singleton.1 hx;exact hn
theorem yov {d:Int}(h:0≤d∧d≤9):48≤wr .u8 (48+wr .u8 d)∧wr .u8 (48+wr .u8 d)≤57:=by
 have h1:wr .u8 d=d:=wr8 (by omega) (by omega)
 have h2:wr .u8 (48+d)=48+d:=wr8 (by omega) (by omega)
 rw[h1,h2];omega
theorem yjw {l:List Int}(h:∀n∈l,48≤n∧n≤57):DigS (l.map fun n=>UInt8.ofNat n.toNat):=by
 intro b hb;obtain⟨n,hn,rfl⟩:=List.mem_map.1 hb;have:=h n hn;have h2:n.toNat<256:=by omega
 simp only[UInt8.toNat_ofNat'];omega
theorem yi9 (f:Fo)(hf:FoOK f)(s:List UInt8)(hs:(s.length:Int)=f.width):DPR 243 [f.av,.str s] (fun ae=>∃num:List UInt8,ae = .ret (.str num)∧num.length=dig f.roles∧DigS num):=by
 refine zaf eRg zae Tryz.func243 rfl (by decide) rfl rfl ?_
 have hr:=f.hr;have hl:=hf.d1;have hw:=hf.w;have hwl:=znp f.roles
 conv=>whnf
 refine zai eRg zae [1,4,16,17] [] 3000 (fun x:Gu f.roles=>[(18,i64 x.i),(6,i64 (wid (f.roles.take x.i))),(5,accV 1000 1 (x.acc.map brow))]) (fun x=>accH 1000 1 (x.acc.map brow)) [(1000,.slot 5)] (fun x=>f.roles.length+1 - x.i) (⟨0,[],by omega,rfl,by simp⟩) ?_
 conv=>whnf
 refine⟨?_,fun x=>?_⟩
 · conv => whnf
   (repeat' first|exact True.intro|apply And.intro|exact congrArg (AV.int .i64) (by(try dsimp only);((try dsimp only);rfl ))|rfl )
 obtain⟨i,acc,hi,ha,hd⟩:=x;rcases acc with _|⟨y,acc⟩
 · skip
   conv=>whnf
   repeat' ((first|refine Br.f (b:=Nat.beq _ _) rfl ?_|refine Rq.mk (by(first|rfl|((try simp only[rz]);omega))) ?_|refine Br.split (fun h=>?_) (fun h=>?_)<;>(try simp only[bz] at h)|refine zag (fun h=>?_) (fun h=>?_)<;>(try simp only[bz] at h)|(obtain⟨r,he,hrm,s1,s2,s3,s4,s5,s6,s7⟩:=zls (l:=f.roles) (i:=i) (by omega);refine Ok3.mk _ he ?_;clear he)|(refine zaa rfl (zp5 _) ?_;rintro _ ⟨dg,x1,x2,rfl,hdg⟩))<;>conv=>whnf)
   all_goals first|(refine⟨⟨i+1,[],by omega,(by simp only[List.length_cons,List.length_append,List.length_nil] at ha ⊢;omega),hd⟩,?_,rfl,?_⟩<;>first|((conv=>whnf);(repeat' first|exact True.intro|apply And.intro|exact congrArg (AV.int .i64) (by(try dsimp only);((try dsimp only);first|omega|(rw[wr64 (by omega) (by omega)];omega)))|rfl );done)|(dsimp only;omega))|(refine⟨⟨i+1,[((s.getD ((wid (f.roles.take i):Int)).toNat 0).toNat:Int)],by omega,(by simp only[List.length_cons,List.length_append,List.length_nil] at ha ⊢;omega),ybg ⟨by omega,by omega⟩⟩,?_,rfl,?_⟩<;>first|((conv=>whnf);(repeat' first|exact True.intro|apply And.intro|exact zat (by rfl) (by rfl) (by simp) (by rfl)|exact zaj (f:=brow) (fun _=>by rfl)|exact congrArg (AV.int .i64) (by(try dsimp only);((try dsimp only);(rw[wr64 (by omega) (by omega)];omega)))|rfl );done)|(dsimp only;omega))|(refine⟨⟨i+1,[wr .u8 (48+wr .u8 dg)],by omega,(by simp only[List.length_cons,List.length_append,List.length_nil] at ha ⊢;omega),ybg (yov hdg)⟩,?_,rfl,?_⟩<;>first|((conv=>whnf);(repeat' first|exact True.intro|apply And.intro|exact zat (by rfl) (by rfl) (by simp) (by rfl)|exact zaj (f:=brow) (fun _=>by rfl)|exact congrArg (AV.int .i64) (by(try dsimp only);((try dsimp only);(rw[wr64 (by omega) (by omega)];omega)))|rfl );done)|(dsimp only;omega))|(refine⟨⟨i+1,[48],by omega,(by simp only[List.length_cons,List.length_append,List.length_nil] at ha ⊢;omega),ybg ⟨by omega,by omega⟩⟩,?_,rfl,?_⟩<;>first|((conv=>whnf);(repeat' first|exact True.intro|apply And.intro|exact zat (by rfl) (by rfl) (by simp) (by rfl)|exact zaj (f:=brow) (fun _=>by rfl)|exact congrArg (AV.int .i64) (by(try dsimp only);((try dsimp only);(rw[wr64 (by omega) (by omega)];omega)))|rfl );done)|(dsimp only;omega))|(exfalso;rw[List.take_of_length_le (by omega)] at ha;simp only[List.length_nil] at ha;omega)
 · simp only [List.length_cons] at ha
   have hdd:dig (f.roles.take i)≤dig f.roles:=((List.take_sublist _ _).filter _).length_le
   conv=>whnf
   repeat' ((first|refine Br.f (b:=Nat.beq _ _) rfl ?_|refine Rq.mk (zcg 1 64 (by simp) rfl rfl (by simp only[List.length_cons,List.length_map] at *;omega) (by decide)) ?_|refine Rq.mk (by(first|rfl|((try simp only[rz]);omega))) ?_|refine Br.split (fun h=>?_) (fun h=>?_)<;>(try simp only[bz] at h)|refine zag (fun h=>?_) (fun h=>?_)<;>(try simp only[bz] at h)|(obtain⟨r,he,hrm,s1,s2,s3,s4,s5,s6,s7⟩:=zls (l:=f.roles) (i:=i) (by omega);refine Ok3.mk _ he ?_;clear he)|(refine zaa rfl (zp5 _) ?_;rintro _ ⟨dg,x1,x2,rfl,hdg⟩)|refine Ok3.mk _ (by erw [zgk (by simp)];exact zes (l:=y::acc)) ?_)<;>conv=>whnf)
   all_goals first|(refine⟨⟨i+1,y::acc,by omega,(by simp only[List.length_cons,List.length_append,List.length_nil] at ha ⊢;omega),hd⟩,?_,rfl,?_⟩<;>first|((conv=>whnf);(repeat' first|exact True.intro|apply And.intro|exact zat (by rfl) (by rfl) (by simp) (by rfl)|exact za4 (by rfl) (zcu (f:=brow) (fun _=>by rfl))|exact zaj (f:=brow) (fun _=>by rfl)|exact congrArg (AV.int .i64) (by(try dsimp only);((try dsimp only);first|omega|(rw[wr64 (by omega) (by omega)];omega)))|rfl );done)|(dsimp only;omega))|(refine⟨⟨i+1,y::(acc++[((s.getD ((wid (f.roles.take i):Int)).toNat 0).toNat:Int)]),by omega,(by simp only[List.length_cons,List.length_append,List.length_nil] at ha ⊢;omega),dg_c hd ⟨by omega,by omega⟩⟩,?_,rfl,?_⟩<;>first|((conv=>whnf);(repeat' first|exact True.intro|apply And.intro|exact zat (by rfl) (by rfl) (by simp) (by rfl)|exact za4 (by rfl) (za7 (f:=brow) (fun _=>by rfl) (by rfl) (by simp))|exact zaj (f:=brow) (fun _=>by rfl)|exact congrArg (AV.int .i64) (by(try dsimp only);((try dsimp only);(rw[wr64 (by omega) (by omega)];omega)))|rfl );done)|(dsimp only;omega))|(refine⟨⟨i+1,y::(acc++[wr .u8 (48+wr .u8 dg)]),by omega,(by simp only[List.length_cons,List.length_append,List.length_nil] at ha ⊢;omega),dg_c hd (yov hdg)⟩,?_,rfl,?_⟩<;>first|((conv=>whnf);(repeat' first|exact True.intro|apply And.intro|exact zat (by rfl) (by rfl) (by simp) (by rfl)|exact za4 (by rfl) (za7 (f:=brow) (fun _=>by rfl) (by rfl) (by simp))|exact zaj (f:=brow) (fun _=>by rfl)|exact congrArg (AV.int .i64) (by(try dsimp only);((try dsimp only);(rw[wr64 (by omega) (by omega)];omega)))|rfl );done)|(dsimp only;omega))|(refine⟨⟨i+1,y::(acc++[48]),by omega,(by simp only[List.length_cons,List.length_append,List.length_nil] at ha ⊢;omega),dg_c hd ⟨by omega,by omega⟩⟩,?_,rfl,?_⟩<;>first|((conv=>whnf);(repeat' first|exact True.intro|apply And.intro|exact zat (by rfl) (by rfl) (by simp) (by rfl)|exact za4 (by rfl) (za7 (f:=brow) (fun _=>by rfl) (by rfl) (by simp))|exact zaj (f:=brow) (fun _=>by rfl)|exact congrArg (AV.int .i64) (by(try dsimp only);((try dsimp only);(rw[wr64 (by omega) (by omega)];omega)))|rfl );done)|(dsimp only;omega))|exact⟨_,rfl,(by rw[List.take_of_length_le (by omega)] at ha;simpa using ha),yjw hd⟩
end Go.Ago
