/-
  Part 21: lemmas, each with its own conditions.
-/
import Derived.Test.YthaolifcglpkdaaGreatDoorA19
set_option maxRecDepth 100000
set_option maxHeartbeats 0
set_option linter.all false
namespace Go.Ago
open Go.Proofs
attribute [local irreducible] ltI leI eqI eqS shrI wr inB mmI comp DC DP DW DV DY
theorem zcu {α:Type}{f:α→List AV}{ρ:Nat→Nat}(hf:∀x,(f x).map (AV.r1 ρ)=f x){y:α}{acc:List α}:f y::acc.map f=(f y::acc.map f).map (List.map (AV.r1 ρ)):=by
 simp[hf,Function.comp_def]
theorem yo4 {a b:Nat}:(Nat.blt a b=false)=(b≤a):=by
 apply propext
 constructor
 · intro h
   rcases Nat.lt_or_ge a b with h1|h1
   · rw[show Nat.blt a b=true from Nat.ble_eq_true_of_le h1] at h;cases h
   · exact h1
 · intro h
   cases e:Nat.blt a b with
   | false=>rfl
   | true=>have:=Nat.le_of_ble_eq_true e;omega
theorem yew (s:List UInt8)(hs:s.length<281474976710656):DPR 238 [.str s] (fun ae=>∃(r:List UInt8) (b:Bool),ae = .ret (.tup [.str r,.bool b])∧(b=true→r.length≤32∧1≤r.length∧Asc r)):=by
 refine zaf eRg zae Tryz.func238 rfl (by decide) rfl rfl ?_
 conv=>whnf
 refine zai eRg zae [2,3,7,11] [7] 2000 (fun x:ExI s=>[(4,accV 1000 1 (x.acc.map fun n=>[AV.int .u8 n])),(5,i64 x.st),(6,i64 x.n)]) (fun x=>(7,.sit s x.pos)::accH 1000 1 (x.acc.map fun n=>[AV.int .u8 n])) [(1000,.slot 4)] (fun x=>s.length - x.pos) (⟨0,0,0,[],by omega,by omega,by omega,(fun _ h=>absurd h (by simp)),by simp⟩) ?_
 conv=>whnf
 refine⟨?_,fun x=>?_⟩
 · conv => whnf
   (repeat' first|exact True.intro|apply And.intro|rfl )
 obtain⟨pos,st,n,acc,hst,hn,h2,ha,hl⟩:=x;have hc0:=ye5 s pos;have hc1:=yjx s pos;have hw1:wr .i32 (decC s pos - 32)=decC s pos - 32:=wr32 (by omega) (by omega)
 have hdw:=ye4 s pos;rcases acc with _|⟨y,acc⟩
 · skip
   conv=>whnf
   repeat' ((first|refine Br.split (b:=Nat.blt pos s.length) (fun h=>?_) (fun h=>?_)<;>(simp only[Nat.blt_eq,yo4] at h)|refine Br.split (fun h=>?_) (fun h=>?_)<;>(try simp only[bz] at h)<;>try (exfalso;omega)|refine zag (fun h=>?_) (fun h=>?_)<;>(try simp only[bz] at h)|(refine zaa rfl (zbv _ _) ?_;rintro _ rfl)|(refine zaa rfl (zuy n _ hn) ?_;rintro _ ⟨m1,b1,rfl,hb1⟩)|refine zay eRg zae Tryz.func270 rfl (by decide) rfl rfl ?_)<;>conv=>whnf)
   all_goals first|exact⟨_,_,rfl,fun h=>absurd h (by decide)⟩|(refine⟨⟨pos+decW s pos,2,n,[],by omega,by omega,by omega,ha,hl⟩,?_,rfl,?_⟩<;>first|((conv=>whnf);(repeat' first|exact True.intro|apply And.intro|rfl );done)|(dsimp only;omega))|(refine⟨⟨pos+decW s pos,st,m1,[],by omega,by have:=hb1 (by assumption);omega,by omega,ha,hl⟩,?_,rfl,?_⟩<;>first|((conv=>whnf);(repeat' first|exact True.intro|apply And.intro|rfl );done)|(dsimp only;omega))|(refine⟨⟨pos+decW s pos,1,0,[],by omega,by omega,by omega,ha,hl⟩,?_,rfl,?_⟩<;>first|((conv=>whnf);(repeat' first|exact True.intro|apply And.intro|rfl );done)|(dsimp only;omega))|skip
   all_goals skip
   all_goals
    refine zai eRg zae [1,6,7,31] [1000] 3000 (fun z:PuI 0=>[(0,accV 4000 1 (z.l.map fun n=>[AV.int .u8 n])),(32,i64 z.j)]) (fun z=>accH 4000 1 (z.l.map fun n=>[AV.int .u8 n])) [(4000,.slot 0)] (fun z=>40 - z.j) (⟨0,[],by simp,by simpa using hl,ha⟩) ?_
    conv=>whnf
    refine⟨?_,fun z=>?_⟩
    · conv => whnf
      (repeat' first|exact True.intro|apply And.intro|rfl )
    (rw[wr64 (by(try simp only[List.length_cons] at *);omega) (by(try simp only[List.length_cons] at *);omega)] at h)
    obtain⟨zj,zl,zhl,zhj,zha⟩:=z;rcases zl with _|⟨w1,zl⟩
    · skip
      conv=>whnf
      repeat' ((first|refine Br.f (b:=Nat.beq _ _) rfl ?_|refine Rq.mk (by(rfl )) ?_|refine Br.split (fun h=>?_) (fun h=>?_)<;>(try simp only[bz] at h))<;>conv=>whnf)
      all_goals first|(refine⟨⟨zj+1,[wr .u8 (decC s pos)],(by simp only[List.length_cons,List.length_append,List.length_nil] at zhl ⊢;omega),(by(try simp only[List.length_cons]);omega),zn8 zha (by omega)⟩,?_,rfl,?_⟩<;>first|((conv=>whnf);(repeat' first|exact True.intro|apply And.intro|exact zat (by rfl) (by rfl) (by simp) (by rfl)|exact zaj (f:=fun n:Int=>[AV.int .u8 n]) (fun _=>by rfl)|(refine cw ?_ ?_ ?_<;>(try dsimp only)<;>omega)|rfl );done)|(dsimp only;omega))|(refine⟨⟨zj+1,[wr .u8 (wr .i32 (decC s pos - 32))],(by simp only[List.length_cons,List.length_append,List.length_nil] at zhl ⊢;omega),(by(try simp only[List.length_cons]);omega),zn8 zha (by omega)⟩,?_,rfl,?_⟩<;>first|((conv=>whnf);(repeat' first|exact True.intro|apply And.intro|exact zat (by rfl) (by rfl) (by simp) (by rfl)|exact zaj (f:=fun n:Int=>[AV.int .u8 n]) (fun _=>by rfl)|(refine cw ?_ ?_ ?_<;>(try dsimp only)<;>omega)|rfl );done)|(dsimp only;omega))|(refine⟨⟨pos+decW s pos,0,n,[],by omega,by omega,by omega,zha,(by(try simp only[List.length_cons,List.length_nil]);omega)⟩,?_,rfl,?_⟩<;>first|((conv=>whnf);(repeat' first|exact True.intro|apply And.intro|rfl );done)|(dsimp only;omega))|(refine⟨⟨pos+decW s pos,st,n,[],by omega,by omega,by omega,zha,(by(try simp only[List.length_cons,List.length_nil]);omega)⟩,?_,rfl,?_⟩<;>first|((conv=>whnf);(repeat' first|exact True.intro|apply And.intro|rfl );done)|(dsimp only;omega))
    · have zm := zhl
      simp only[List.length_cons] at zm
      try simp only[List.length_cons] at zhj
      conv=>whnf
      repeat' ((first|refine Br.f (b:=Nat.beq _ _) rfl ?_|refine Rq.mk (zcg 1 64 (by simp) rfl rfl (by simp only[List.length_cons,List.length_map] at *;omega) (by decide)) ?_|refine Rq.mk (by(rfl )) ?_|refine Br.split (fun h=>?_) (fun h=>?_)<;>(try simp only[bz] at h)<;>try (exfalso;omega))<;>conv=>whnf)
      all_goals first|(refine⟨⟨zj+1,w1::(zl++[wr .u8 (decC s pos)]),(by simp only[List.length_cons,List.length_append,List.length_nil] at zhl ⊢;omega),(by(try simp only[List.length_cons]);omega),zn8 zha (by omega)⟩,?_,rfl,?_⟩<;>first|((conv=>whnf);(repeat' first|exact True.intro|apply And.intro|exact zat (by rfl) (by rfl) (by simp) (by rfl)|exact za4 (by rfl) (za7 (f:=fun n:Int=>[AV.int .u8 n]) (fun _=>by rfl) (by rfl) (by simp))|exact zaj (f:=fun n:Int=>[AV.int .u8 n]) (fun _=>by rfl)|(refine cw ?_ ?_ ?_<;>(try dsimp only)<;>omega)|rfl );done)|(dsimp only;omega))|(refine⟨⟨zj+1,w1::(zl++[wr .u8 (wr .i32 (decC s pos - 32))]),(by simp only[List.length_cons,List.length_append,List.length_nil] at zhl ⊢;omega),(by(try simp only[List.length_cons]);omega),zn8 zha (by omega)⟩,?_,rfl,?_⟩<;>first|((conv=>whnf);(repeat' first|exact True.intro|apply And.intro|exact zat (by rfl) (by rfl) (by simp) (by rfl)|exact za4 (by rfl) (za7 (f:=fun n:Int=>[AV.int .u8 n]) (fun _=>by rfl) (by rfl) (by simp))|exact zaj (f:=fun n:Int=>[AV.int .u8 n]) (fun _=>by rfl)|(refine cw ?_ ?_ ?_<;>(try dsimp only)<;>omega)|rfl );done)|(dsimp only;omega))|(refine⟨⟨pos+decW s pos,0,n,w1::zl,by omega,by omega,by omega,zha,(by(try simp only[List.length_cons,List.length_nil]);omega)⟩,?_,rfl,?_⟩<;>first|((conv=>whnf);(repeat' first|exact True.intro|apply And.intro|exact zat (by rfl) (by rfl) (by simp) (by rfl)|exact za4 (by rfl) (zcu (f:=fun n:Int=>[AV.int .u8 n]) (fun _=>by rfl))|exact zaj (f:=fun n:Int=>[AV.int .u8 n]) (fun _=>by rfl)|rfl );done)|(dsimp only;omega))|(refine⟨⟨pos+decW s pos,st,n,w1::zl,by omega,by omega,by omega,zha,(by(try simp only[List.length_cons,List.length_nil]);omega)⟩,?_,rfl,?_⟩<;>first|((conv=>whnf);(repeat' first|exact True.intro|apply And.intro|exact zat (by rfl) (by rfl) (by simp) (by rfl)|exact za4 (by rfl) (zcu (f:=fun n:Int=>[AV.int .u8 n]) (fun _=>by rfl))|exact zaj (f:=fun n:Int=>[AV.int .u8 n]) (fun _=>by rfl)|rfl );done)|(dsimp only;omega))
 · skip
   have hl9:=hl;simp only[List.length_cons] at hl9
   conv=>whnf
   repeat' ((first|refine Br.split (b:=Nat.blt pos s.length) (fun h=>?_) (fun h=>?_)<;>(simp only[Nat.blt_eq,yo4] at h)|refine Rq.mk (by(first|rfl|((try simp only[rz]);omega))) ?_|refine Br.split (fun h=>?_) (fun h=>?_)<;>(try simp only[bz] at h)<;>try (exfalso;omega)|refine zag (fun h=>?_) (fun h=>?_)<;>(try simp only[bz] at h)|(refine zaa rfl (zbv _ _) ?_;rintro _ rfl)|(refine zaa rfl (zuy n _ hn) ?_;rintro _ ⟨m1,b1,rfl,hb1⟩)|refine zay eRg zae Tryz.func270 rfl (by decide) rfl rfl ?_|refine Ok3.mk _ (by erw [zgk (by simp)];exact zes (l:=y::acc)) ?_)<;>conv=>whnf)
   all_goals first|exact⟨_,_,rfl,fun h=>absurd h (by decide)⟩|(refine⟨⟨pos+decW s pos,2,n,y::acc,by omega,by omega,by omega,ha,hl⟩,?_,rfl,?_⟩<;>first|((conv=>whnf);(repeat' first|exact True.intro|apply And.intro|exact zat (by rfl) (by rfl) (by simp) (by rfl)|exact za4 (by rfl) (zcu (f:=fun n:Int=>[AV.int .u8 n]) (fun _=>by rfl))|exact zaj (f:=fun n:Int=>[AV.int .u8 n]) (fun _=>by rfl)|rfl );done)|(dsimp only;omega))|(refine⟨⟨pos+decW s pos,st,m1,y::acc,by omega,by have:=hb1 (by assumption);omega,by omega,ha,hl⟩,?_,rfl,?_⟩<;>first|((conv=>whnf);(repeat' first|exact True.intro|apply And.intro|exact zat (by rfl) (by rfl) (by simp) (by rfl)|exact za4 (by rfl) (zcu (f:=fun n:Int=>[AV.int .u8 n]) (fun _=>by rfl))|exact zaj (f:=fun n:Int=>[AV.int .u8 n]) (fun _=>by rfl)|rfl );done)|(dsimp only;omega))|(refine⟨⟨pos+decW s pos,1,0,y::acc,by omega,by omega,by omega,ha,hl⟩,?_,rfl,?_⟩<;>first|((conv=>whnf);(repeat' first|exact True.intro|apply And.intro|exact zat (by rfl) (by rfl) (by simp) (by rfl)|exact za4 (by rfl) (zcu (f:=fun n:Int=>[AV.int .u8 n]) (fun _=>by rfl))|exact zaj (f:=fun n:Int=>[AV.int .u8 n]) (fun _=>by rfl)|rfl );done)|(dsimp only;omega))|skip
   all_goals first|exact⟨_,_,rfl,fun _=>⟨by simpa using hl,by simp,yku ha⟩⟩|skip
   all_goals
    refine zai eRg zae [1,6,7,31] [1000] 3000 (fun z:PuI (y::acc).length=>[(0,accV 4000 1 (z.l.map fun n=>[AV.int .u8 n])),(32,i64 z.j)]) (fun z=>accH 4000 1 (z.l.map fun n=>[AV.int .u8 n])) [(4000,.slot 0)] (fun z=>40 - z.j) (⟨0,y::acc,by simp,by simpa using hl,ha⟩) ?_
    conv=>whnf
    refine⟨?_,fun z=>?_⟩
    · conv => whnf
      (repeat' first|exact True.intro|apply And.intro|exact zat (by rfl) (by rfl) (by simp) (by rfl)|exact za4 (by rfl) (zcu (f:=fun n:Int=>[AV.int .u8 n]) (fun _=>by rfl))|exact zaj (f:=fun n:Int=>[AV.int .u8 n]) (fun _=>by rfl)|rfl )
    (rw[wr64 (by(try simp only[List.length_cons] at *);omega) (by(try simp only[List.length_cons] at *);omega)] at h)
    obtain⟨zj,zl,zhl,zhj,zha⟩:=z;rcases zl with _|⟨w1,zl⟩
    · exact absurd zhl (by simp only[List.length_nil,List.length_cons];omega)
    · have zm := zhl
      simp only[List.length_cons] at zm
      try simp only[List.length_cons] at zhj
      conv=>whnf
      repeat' ((first|refine Br.f (b:=Nat.beq _ _) rfl ?_|refine Rq.mk (zcg 1 64 (by simp) rfl rfl (by simp only[List.length_cons,List.length_map] at *;omega) (by decide)) ?_|refine Rq.mk (by(rfl )) ?_|refine Br.split (fun h=>?_) (fun h=>?_)<;>(try simp only[bz] at h))<;>conv=>whnf)
      all_goals first|(refine⟨⟨zj+1,w1::(zl++[wr .u8 (decC s pos)]),(by simp only[List.length_cons,List.length_append,List.length_nil] at zhl ⊢;omega),(by(try simp only[List.length_cons]);omega),zn8 zha (by omega)⟩,?_,rfl,?_⟩<;>first|((conv=>whnf);(repeat' first|exact True.intro|apply And.intro|exact zat (by rfl) (by rfl) (by simp) (by rfl)|exact za4 (by rfl) (za7 (f:=fun n:Int=>[AV.int .u8 n]) (fun _=>by rfl) (by rfl) (by simp))|exact zaj (f:=fun n:Int=>[AV.int .u8 n]) (fun _=>by rfl)|(refine cw ?_ ?_ ?_<;>(try dsimp only)<;>omega)|rfl );done)|(dsimp only;omega))|(refine⟨⟨zj+1,w1::(zl++[wr .u8 (wr .i32 (decC s pos - 32))]),(by simp only[List.length_cons,List.length_append,List.length_nil] at zhl ⊢;omega),(by(try simp only[List.length_cons]);omega),zn8 zha (by omega)⟩,?_,rfl,?_⟩<;>first|((conv=>whnf);(repeat' first|exact True.intro|apply And.intro|exact zat (by rfl) (by rfl) (by simp) (by rfl)|exact za4 (by rfl) (za7 (f:=fun n:Int=>[AV.int .u8 n]) (fun _=>by rfl) (by rfl) (by simp))|exact zaj (f:=fun n:Int=>[AV.int .u8 n]) (fun _=>by rfl)|(refine cw ?_ ?_ ?_<;>(try dsimp only)<;>omega)|rfl );done)|(dsimp only;omega))|(refine⟨⟨pos+decW s pos,0,n,w1::zl,by omega,by omega,by omega,zha,(by(try simp only[List.length_cons,List.length_nil]);omega)⟩,?_,rfl,?_⟩<;>first|((conv=>whnf);(repeat' first|exact True.intro|apply And.intro|exact zat (by rfl) (by rfl) (by simp) (by rfl)|exact za4 (by rfl) (zcu (f:=fun n:Int=>[AV.int .u8 n]) (fun _=>by rfl))|exact zaj (f:=fun n:Int=>[AV.int .u8 n]) (fun _=>by rfl)|rfl );done)|(dsimp only;omega))|(refine⟨⟨pos+decW s pos,st,n,w1::zl,by omega,by omega,by omega,zha,(by(try simp only[List.length_cons,List.length_nil]);omega)⟩,?_,rfl,?_⟩<;>first|((conv=>whnf);(repeat' first|exact True.intro|apply And.intro|exact zat (by rfl) (by rfl) (by simp) (by rfl)|exact za4 (by rfl) (zcu (f:=fun n:Int=>[AV.int .u8 n]) (fun _=>by rfl))|exact zaj (f:=fun n:Int=>[AV.int .u8 n]) (fun _=>by rfl)|rfl );done)|(dsimp only;omega))
end Go.Ago
