/-
  Part 27: lemmas, each with its own conditions.
-/
import Derived.Test.YthaolifcglpkdaaGreatDoorA25
import Derived.Test.YthaolifcglpkdaaGreatDoorA26
set_option maxRecDepth 100000
set_option maxHeartbeats 0
set_option linter.all false
namespace Go.Ago
open Go.Proofs
attribute [local irreducible] ltI leI eqI eqS shrI wr inB mmI comp DC DP DW DV DY
theorem yib (s r:List UInt8)(hs:s.length<281474976710656)(hr:r.length<281474976710656):DPR 191 [.str s,.str r] (fun ae=>∃a e:Int,ae = .ret (.tup [i64 a,i64 e])):=by
 refine zaf eRg zae Tryz.func191 rfl (by decide) rfl rfl ?_
 conv=>whnf
 repeat' ((first|refine Br.split (fun h=>?_) (fun h=>?_)<;>(try simp only[bz] at h)|refine zag (fun h=>?_) (fun h=>?_)<;>(try simp only[bz] at h)|(refine zaa rfl (ye3 _ hs) ?_;rintro _ (rfl|⟨f,rfl,hf⟩))|(refine zaa rfl (yi9 f hf r (by assumption )) ?_;rintro _ ⟨num,rfl,hn,hdg⟩)|(refine zaa rfl (ypa num hdg (by intro e;subst e;have:=hf.d1;simp at hn;omega) (by have:=hf.d1;omega)) ?_;rintro _ ⟨v,rfl⟩)|(refine zaa rfl (yhb f hf num hn) ?_;rintro _ ⟨w1,n1,rfl⟩)|(refine zaa rfl (yha f hf num hn) ?_;rintro _ ⟨w2,n2,rfl⟩))<;>conv=>whnf)
 all_goals exact⟨_,_,rfl⟩
theorem yi2 (s r:List UInt8)(hs:s.length<281474976710656)(hr:r.length<281474976710656):DPR 143 [.str s,.str r] (retB fun _=>True):=by
 refine zaf eRg zae Tryz.func143 rfl (by decide) rfl rfl ?_
 conv=>whnf
 repeat' first
  | (refine Br.split (fun h=>?_) (fun h=>?_)<;>(try simp only[bz] at h)<;>(conv=>whnf))
  | (refine zag (fun h=>?_) (fun h=>?_)<;>(try simp only[bz] at h)<;>(conv=>whnf))
  | (refine zaa rfl (zzg _ hs) ?_;rintro _ (rfl|⟨q,hq,rfl⟩|⟨⟨spec,num,width,digits,scale,signed,roles,drift,first,credit,fill,firms,fs,fr⟩,rfl,hf⟩)<;>first|(obtain rfl:num=true:=hf.num;conv=>whnf)|(conv=>whnf))
  | (refine zaa rfl (yib _ _ hs hr) ?_;rintro _ ⟨a,e,rfl⟩;conv=>whnf)
  | (refine zaa rfl (yog ⟨_,by omega⟩ ⟨r,hr⟩) ?_;rintro _ ⟨b,rfl,-⟩;conv=>whnf)
 all_goals exact⟨_,rfl,trivial⟩
end Go.Ago
namespace Go.Ago
open Go.Proofs
theorem zxb (s:List UInt8)(hs:s.length<281474976710656):DPR 188 [.str s] (retI fun _=>True):=zx0 s hs
theorem zxa (s r:List UInt8)(hs:s.length<281474976710656)(hr:r.length<281474976710656):DPR 143 [.str s,.str r] (retB fun _=>True):=yi2 s r hs hr
theorem zw9 (s:List UInt8)(hs:s.length<281474976710656):DPR 236 [.str s] (fun ae=>∃(a:List UInt8) (b:Bool) (c d e:Int) (g:Bool) (n:Int),ae = .ret (.tup [.agg [.str a,.bool b,i64 c,i64 d,i64 e,.bool g],i64 n])):=zzv s hs
end Go.Ago
section
namespace Go.Ago
open Go.Proofs
attribute [local irreducible] ltI leI eqI eqS shrI wr inB mmI comp DC DP DW DV
theorem zmw (t:Ty):DPR 139 [t.av] (retI fun _=>True):=by
 refine zaf eRg zae Tryz.func139 rfl (by decide) rfl rfl ?_
 conv=>whnf
 repeat' ((first|refine Rq.mk (by(rfl )) ?_|refine Br.split (fun h=>?_) (fun h=>?_)<;>(try simp only[bz] at h)|refine zag (fun h=>?_) (fun h=>?_)<;>(try simp only[bz] at h)|(refine zaa rfl (yel _) ?_;rintro _ ⟨b1,rfl,hb1⟩)|(refine zaa rfl (zlj _) ?_;rintro _ ⟨n1,rfl,hn1⟩)|(refine zaa rfl (zxb _ (by exact t.hp)) ?_;rintro _ ⟨n2,rfl,hn2⟩))<;>conv=>whnf)
 all_goals exact⟨_,rfl,trivial⟩
attribute [local semireducible] DP in
theorem ze7 {g:FuncId}{args:List AV}{p:Int→Prop}(h:DPR g args (retI p)):∃n,p n∧DPR g args (fun ae=>ae = .ret (i64 n)):=by
 obtain⟨_,h,n,rfl,hn⟩:=h;exact⟨n,hn,_,h,rfl⟩
noncomputable def ct (t:Ty):Int:=Classical.choose (ze7 (zmw t))
theorem zcy (t:Ty):DPR 139 [t.av] (fun ae=>ae = .ret (i64 (ct t))):=(Classical.choose_spec (ze7 (zmw t))).2
attribute [local irreducible] ct
theorem yai (t:Ty):DPR 140 [t.av] (retB fun b=>b=true↔t.kind≠7∧ct t=0):=by
 refine zaf eRg zae Tryz.func140 rfl (by decide) rfl rfl ?_
 conv=>whnf
 repeat' ((first|refine Br.split (fun h=>?_) (fun h=>?_)<;>(try simp only[bz] at h)|(refine zaa rfl (zcy _) ?_;rintro _ rfl))<;>conv=>whnf)
 all_goals exact⟨_,rfl,by simp_all⟩
theorem zmg (t:Ty):DPR 101 [t.av] (retB fun b=>b=true↔t.kind≠7∧ct t=0):=by
 refine zaf eRg zae Tryz.func101 rfl (by decide) rfl rfl ?_
 conv=>whnf
 repeat' ((first|refine Br.split (fun h=>?_) (fun h=>?_)<;>(try simp only[bz] at h)|(refine zaa rfl (zcy _) ?_;rintro _ rfl))<;>conv=>whnf)
 all_goals exact⟨_,rfl,by simp_all⟩
theorem zjf (t:Ty):DPR 180 [t.av] (retB fun b=>b=true↔t.kind≠7∧ct t=0):=by
 refine zaf eRg zae Tryz.func180 rfl (by decide) rfl rfl ?_
 conv=>whnf
 repeat' ((first|refine Br.split (fun h=>?_) (fun h=>?_)<;>(try simp only[bz] at h)|(refine zaa rfl (zcy _) ?_;rintro _ rfl))<;>conv=>whnf)
 all_goals exact⟨_,rfl,by simp_all⟩
theorem zs4 (t:Ty):DPR 105 [t.av] (retB fun _=>True):=by
 refine zaf eRg zae Tryz.func105 rfl (by decide) rfl rfl ?_
 conv=>whnf
 repeat' ((first|refine Br.split (fun h=>?_) (fun h=>?_)<;>(try simp only[bz] at h)|refine zag (fun h=>?_) (fun h=>?_)<;>(try simp only[bz] at h)|(refine zaa rfl (zmg _) ?_;rintro _ ⟨n1,rfl,hn1⟩))<;>conv=>whnf)
 all_goals exact⟨_,rfl,trivial⟩
theorem yj2 (t:Ty):DPR 152 [t.av] (retB fun _=>True):=by
 refine zaf eRg zae Tryz.func152 rfl (by decide) rfl rfl ?_
 conv=>whnf
 repeat' ((first|refine Br.split (fun h=>?_) (fun h=>?_)<;>(try simp only[bz] at h)|refine zag (fun h=>?_) (fun h=>?_)<;>(try simp only[bz] at h)|(refine zaa rfl (zmg _) ?_;rintro _ ⟨n1,rfl,hn1⟩))<;>conv=>whnf)
 all_goals exact⟨_,rfl,trivial⟩
end Go.Ago
end
namespace Go.Ago
open Go.Proofs
attribute [local irreducible] ltI leI eqI eqS shrI wr inB mmI comp DC DP DW DV
theorem zty (s:List UInt8)(hs:s.length<281474976710656):DPR 142 [.str s] (retB fun _=>True):=by
 refine zaf eRg zae Tryz.func142 rfl (by decide) rfl rfl ?_
 conv=>whnf
 refine zai eRg zae [0,2,5] [] 0 (fun i:Nat=>[(6,i64 i)]) (fun _=>[]) [] (fun i=>s.length+1 - i) (0) ?_
 conv=>whnf
 refine⟨?_,fun i=>?_⟩
 · conv => whnf
   (repeat' first|exact True.intro|rfl|apply And.intro )
 conv=>whnf
 repeat' ((first|refine Rq.mk (by(first|rfl|((try simp only[rz]);omega))) ?_|refine Br.split (fun h=>?_) (fun h=>?_)<;>(try simp only[bz] at h))<;>conv=>whnf)
 all_goals first|exact⟨_,rfl,trivial⟩|(refine⟨i+1,(by(conv=>whnf);(repeat' first|exact True.intro|rfl|apply And.intro|(refine cw ?_ ?_ ?_<;>(try dsimp only)<;>omega) )),rfl,(by(try simp only[List.length_map] at *)<;>omega)⟩)
theorem zug (n lo:Int):DPR 177 [i64 n,i64 lo] (retB fun _=>True):=by
 refine zaf eRg zae Tryz.func177 rfl (by decide) rfl rfl ?_
 conv=>whnf
 repeat' ((first|refine Rq.mk (by(rfl )) ?_|refine Br.split (fun h=>?_) (fun h=>?_)<;>(try simp only[bz] at h)|refine zag (fun h=>?_) (fun h=>?_)<;>(try simp only[bz] at h)|(refine zaa rfl (zcz _ _ _) ?_;rintro _ ⟨b1,rfl,hb1⟩))<;>conv=>whnf)
 all_goals exact⟨_,rfl,trivial⟩
theorem yf5 (n m:Int):DPR 222 [i64 n,i64 m] (retB fun b=>b=true↔0≤n∧n≤wr .i64 (m - 1)):=by
 refine zaf eRg zae Tryz.func222 rfl (by decide) rfl rfl ?_
 conv=>whnf
 repeat' ((first|refine zag (fun h=>?_) (fun h=>?_)<;>(try simp only[bz] at h)|(refine zaa rfl (zcz _ _ _) ?_;rintro _ ⟨b1,rfl,hb1⟩))<;>conv=>whnf)
 all_goals exact⟨_,rfl,by simp_all⟩
abbrev yps:List AV:=([1,10,100,1000,10000,100000,1000000,10000000,100000000,1000000000,10000000000,100000000000,1000000000000,10000000000000,100000000000000,1000000000000000,10000000000000000,100000000000000000,1000000000000000000]:List Int).map fun n => .int .i64 n
def p10:Nat→Int|0=>1|n+1=>wr .i64 (p10 n * 10)
def ypt (i:Nat):List AV:=(List.range 19).map fun j=>i64 (if j<i then p10 j else 0)
theorem ym0:DPR 237 [] (fun ae=>ae = .ret (.agg yps)):=by
 refine zaf eRg zae Tryz.func237 rfl (by decide) rfl rfl ?_
 conv=>whnf
 refine zai eRg zae [0] [0] 0 (fun i:{i:Nat // i≤19}=>[(3,i64 i.1),(1,i64 (p10 i.1))]) (fun i=>[(0,AObj.arr 19 [ypt i.1])]) [] (fun i=>20 - i.1) (⟨0,by decide⟩) ?_
 conv=>whnf
 refine⟨?_,fun i=>?_⟩
 · conv => whnf
   (repeat' first|exact True.intro|rfl|apply And.intro )
 rcases i with⟨i,hi⟩
 match i,hi with
 | 0, _ =>
   conv=>whnf
   repeat' ((first|refine Rq.mk (by(first|rfl|((try simp only[rz]);omega))) ?_|refine Br.split (fun h=>?_) (fun h=>?_)<;>(try simp only[bz] at h)<;>try (exfalso;omega))<;>conv=>whnf)
   all_goals (refine⟨⟨1,by decide⟩,(by(conv=>whnf);(repeat' first|exact True.intro|rfl|apply And.intro|(refine cw ?_ ?_ ?_<;>(try dsimp only)<;>omega) )),rfl,(by(try simp only[List.length_map] at *)<;>omega)⟩)
 | 1, _ =>
   conv=>whnf
   repeat' ((first|refine Rq.mk (by(first|rfl|((try simp only[rz]);omega))) ?_|refine Br.split (fun h=>?_) (fun h=>?_)<;>(try simp only[bz] at h)<;>try (exfalso;omega))<;>conv=>whnf)
   all_goals (refine⟨⟨2,by decide⟩,(by(conv=>whnf);(repeat' first|exact True.intro|rfl|apply And.intro|(refine cw ?_ ?_ ?_<;>(try dsimp only)<;>omega) )),rfl,(by(try simp only[List.length_map] at *)<;>omega)⟩)
 | 2, _ =>
   conv=>whnf
   repeat' ((first|refine Rq.mk (by(first|rfl|((try simp only[rz]);omega))) ?_|refine Br.split (fun h=>?_) (fun h=>?_)<;>(try simp only[bz] at h)<;>try (exfalso;omega))<;>conv=>whnf)
   all_goals (refine⟨⟨3,by decide⟩,(by(conv=>whnf);(repeat' first|exact True.intro|rfl|apply And.intro|(refine cw ?_ ?_ ?_<;>(try dsimp only)<;>omega) )),rfl,(by(try simp only[List.length_map] at *)<;>omega)⟩)
 | 3, _ =>
   conv=>whnf
   repeat' ((first|refine Rq.mk (by(first|rfl|((try simp only[rz]);omega))) ?_|refine Br.split (fun h=>?_) (fun h=>?_)<;>(try simp only[bz] at h)<;>try (exfalso;omega))<;>conv=>whnf)
   all_goals (refine⟨⟨4,by decide⟩,(by(conv=>whnf);(repeat' first|exact True.intro|rfl|apply And.intro|(refine cw ?_ ?_ ?_<;>(try dsimp only)<;>omega) )),rfl,(by(try simp only[List.length_map] at *)<;>omega)⟩)
 | 4, _ =>
   conv=>whnf
   repeat' ((first|refine Rq.mk (by(first|rfl|((try simp only[rz]);omega))) ?_|refine Br.split (fun h=>?_) (fun h=>?_)<;>(try simp only[bz] at h)<;>try (exfalso;omega))<;>conv=>whnf)
   all_goals (refine⟨⟨5,by decide⟩,(by(conv=>whnf);(repeat' first|exact True.intro|rfl|apply And.intro|(refine cw ?_ ?_ ?_<;>(try dsimp only)<;>omega) )),rfl,(by(try simp only[List.length_map] at *)<;>omega)⟩)
 | 5, _ =>
   conv=>whnf
   repeat' ((first|refine Rq.mk (by(first|rfl|((try simp only[rz]);omega))) ?_|refine Br.split (fun h=>?_) (fun h=>?_)<;>(try simp only[bz] at h)<;>try (exfalso;omega))<;>conv=>whnf)
   all_goals (refine⟨⟨6,by decide⟩,(by(conv=>whnf);(repeat' first|exact True.intro|rfl|apply And.intro|(refine cw ?_ ?_ ?_<;>(try dsimp only)<;>omega) )),rfl,(by(try simp only[List.length_map] at *)<;>omega)⟩)
 | 6, _ =>
   conv=>whnf
   repeat' ((first|refine Rq.mk (by(first|rfl|((try simp only[rz]);omega))) ?_|refine Br.split (fun h=>?_) (fun h=>?_)<;>(try simp only[bz] at h)<;>try (exfalso;omega))<;>conv=>whnf)
   all_goals (refine⟨⟨7,by decide⟩,(by(conv=>whnf);(repeat' first|exact True.intro|rfl|apply And.intro|(refine cw ?_ ?_ ?_<;>(try dsimp only)<;>omega) )),rfl,(by(try simp only[List.length_map] at *)<;>omega)⟩)
 | 7, _ =>
   conv=>whnf
   repeat' ((first|refine Rq.mk (by(first|rfl|((try simp only[rz]);omega))) ?_|refine Br.split (fun h=>?_) (fun h=>?_)<;>(try simp only[bz] at h)<;>try (exfalso;omega))<;>conv=>whnf)
   all_goals (refine⟨⟨8,by decide⟩,(by(conv=>whnf);(repeat' first|exact True.intro|rfl|apply And.intro|(refine cw ?_ ?_ ?_<;>(try dsimp only)<;>omega) )),rfl,(by(try simp only[List.length_map] at *)<;>omega)⟩)
 | 8, _ =>
   conv=>whnf
   repeat' ((first|refine Rq.mk (by(first|rfl|((try simp only[rz]);omega))) ?_|refine Br.split (fun h=>?_) (fun h=>?_)<;>(try simp only[bz] at h)<;>try (exfalso;omega))<;>conv=>whnf)
   all_goals (refine⟨⟨9,by decide⟩,(by(conv=>whnf);(repeat' first|exact True.intro|rfl|apply And.intro|(refine cw ?_ ?_ ?_<;>(try dsimp only)<;>omega) )),rfl,(by(try simp only[List.length_map] at *)<;>omega)⟩)
 | 9, _ =>
   conv=>whnf
   repeat' ((first|refine Rq.mk (by(first|rfl|((try simp only[rz]);omega))) ?_|refine Br.split (fun h=>?_) (fun h=>?_)<;>(try simp only[bz] at h)<;>try (exfalso;omega))<;>conv=>whnf)
   all_goals (refine⟨⟨10,by decide⟩,(by(conv=>whnf);(repeat' first|exact True.intro|rfl|apply And.intro|(refine cw ?_ ?_ ?_<;>(try dsimp only)<;>omega) )),rfl,(by(try simp only[List.length_map] at *)<;>omega)⟩)
 | 10, _ =>
   conv=>whnf
   repeat' ((first|refine Rq.mk (by(first|rfl|((try simp only[rz]);omega))) ?_|refine Br.split (fun h=>?_) (fun h=>?_)<;>(try simp only[bz] at h)<;>try (exfalso;omega))<;>conv=>whnf)
   all_goals (refine⟨⟨11,by decide⟩,(by(conv=>whnf);(repeat' first|exact True.intro|rfl|apply And.intro|(refine cw ?_ ?_ ?_<;>(try dsimp only)<;>omega) )),rfl,(by(try simp only[List.length_map] at *)<;>omega)⟩)
 | 11, _ =>
   conv=>whnf
   repeat' ((first|refine Rq.mk (by(first|rfl|((try simp only[rz]);omega))) ?_|refine Br.split (fun h=>?_) (fun h=>?_)<;>(try simp only[bz] at h)<;>try (exfalso;omega))<;>conv=>whnf)
   all_goals (refine⟨⟨12,by decide⟩,(by(conv=>whnf);(repeat' first|exact True.intro|rfl|apply And.intro|(refine cw ?_ ?_ ?_<;>(try dsimp only)<;>omega) )),rfl,(by(try simp only[List.length_map] at *)<;>omega)⟩)
 | 12, _ =>
   conv=>whnf
   repeat' ((first|refine Rq.mk (by(first|rfl|((try simp only[rz]);omega))) ?_|refine Br.split (fun h=>?_) (fun h=>?_)<;>(try simp only[bz] at h)<;>try (exfalso;omega))<;>conv=>whnf)
   all_goals (refine⟨⟨13,by decide⟩,(by(conv=>whnf);(repeat' first|exact True.intro|rfl|apply And.intro|(refine cw ?_ ?_ ?_<;>(try dsimp only)<;>omega) )),rfl,(by(try simp only[List.length_map] at *)<;>omega)⟩)
 | 13, _ =>
   conv=>whnf
   repeat' ((first|refine Rq.mk (by(first|rfl|((try simp only[rz]);omega))) ?_|refine Br.split (fun h=>?_) (fun h=>?_)<;>(try simp only[bz] at h)<;>try (exfalso;omega))<;>conv=>whnf)
   all_goals (refine⟨⟨14,by decide⟩,(by(conv=>whnf);(repeat' first|exact True.intro|rfl|apply And.intro|(refine cw ?_ ?_ ?_<;>(try dsimp only)<;>omega) )),rfl,(by(try simp only[List.length_map] at *)<;>omega)⟩)
 | 14, _ =>
   conv=>whnf
   repeat' ((first|refine Rq.mk (by(first|rfl|((try simp only[rz]);omega))) ?_|refine Br.split (fun h=>?_) (fun h=>?_)<;>(try simp only[bz] at h)<;>try (exfalso;omega))<;>conv=>whnf)
   all_goals (refine⟨⟨15,by decide⟩,(by(conv=>whnf);(repeat' first|exact True.intro|rfl|apply And.intro|(refine cw ?_ ?_ ?_<;>(try dsimp only)<;>omega) )),rfl,(by(try simp only[List.length_map] at *)<;>omega)⟩)
 | 15, _ =>
   conv=>whnf
   repeat' ((first|refine Rq.mk (by(first|rfl|((try simp only[rz]);omega))) ?_|refine Br.split (fun h=>?_) (fun h=>?_)<;>(try simp only[bz] at h)<;>try (exfalso;omega))<;>conv=>whnf)
   all_goals (refine⟨⟨16,by decide⟩,(by(conv=>whnf);(repeat' first|exact True.intro|rfl|apply And.intro|(refine cw ?_ ?_ ?_<;>(try dsimp only)<;>omega) )),rfl,(by(try simp only[List.length_map] at *)<;>omega)⟩)
 | 16, _ =>
   conv=>whnf
   repeat' ((first|refine Rq.mk (by(first|rfl|((try simp only[rz]);omega))) ?_|refine Br.split (fun h=>?_) (fun h=>?_)<;>(try simp only[bz] at h)<;>try (exfalso;omega))<;>conv=>whnf)
   all_goals (refine⟨⟨17,by decide⟩,(by(conv=>whnf);(repeat' first|exact True.intro|rfl|apply And.intro|(refine cw ?_ ?_ ?_<;>(try dsimp only)<;>omega) )),rfl,(by(try simp only[List.length_map] at *)<;>omega)⟩)
 | 17, _ =>
   conv=>whnf
   repeat' ((first|refine Rq.mk (by(first|rfl|((try simp only[rz]);omega))) ?_|refine Br.split (fun h=>?_) (fun h=>?_)<;>(try simp only[bz] at h)<;>try (exfalso;omega))<;>conv=>whnf)
   all_goals (refine⟨⟨18,by decide⟩,(by(conv=>whnf);(repeat' first|exact True.intro|rfl|apply And.intro|(refine cw ?_ ?_ ?_<;>(try dsimp only)<;>omega) )),rfl,(by(try simp only[List.length_map] at *)<;>omega)⟩)
 | 18, _ =>
   conv=>whnf
   repeat' ((first|refine Rq.mk (by(first|rfl|((try simp only[rz]);omega))) ?_|refine Br.split (fun h=>?_) (fun h=>?_)<;>(try simp only[bz] at h)<;>try (exfalso;omega))<;>conv=>whnf)
   all_goals (refine⟨⟨19,by decide⟩,(by(conv=>whnf);(repeat' first|exact True.intro|rfl|apply And.intro|(refine cw ?_ ?_ ?_<;>(try dsimp only)<;>omega) )),rfl,(by(try simp only[List.length_map] at *)<;>omega)⟩)
 | 19, _ =>
   conv=>whnf
   repeat' first
    | (refine Br.split (fun h=>?_) (fun h=>?_)<;>(try simp only[bz] at h)<;>first|(exfalso;omega)|(conv=>whnf))
   all_goals kernel_rfl
 | n+20,h=>exact absurd h (by omega)
theorem zxy (p:Int)(h:0≤p∧p≤18):∃n:Int,0≤n∧n<9223372036854775808∧zje [AV.int IntKind.i64 1,AV.int IntKind.i64 10,AV.int IntKind.i64 100,AV.int IntKind.i64 1000,AV.int IntKind.i64 10000,AV.int IntKind.i64 100000,AV.int IntKind.i64 1000000,AV.int IntKind.i64 10000000,AV.int IntKind.i64 100000000,AV.int IntKind.i64 1000000000,AV.int IntKind.i64 10000000000,AV.int IntKind.i64 100000000000,AV.int IntKind.i64 1000000000000,AV.int IntKind.i64 10000000000000,AV.int IntKind.i64 100000000000000,AV.int IntKind.i64 1000000000000000,AV.int IntKind.i64 10000000000000000,AV.int IntKind.i64 100000000000000000,AV.int IntKind.i64 1000000000000000000] (p.toNat * ti3.size) ti3.size=some [.int .i64 n]:=by
 obtain⟨k,rfl⟩:=Int.eq_ofNat_of_zero_le h.1;have hk:k<19:=by omega
 match k,hk with
 | 0,_=>exact⟨1,by decide,by decide,rfl⟩
 | 1,_=>exact⟨10,by decide,by decide,rfl⟩
 | 2,_=>exact⟨100,by decide,by decide,rfl⟩
 | 3,_=>exact⟨1000,by decide,by decide,rfl⟩
 | 4,_=>exact⟨10000,by decide,by decide,rfl⟩
 | 5,_=>exact⟨100000,by decide,by decide,rfl⟩
 | 6,_=>exact⟨1000000,by decide,by decide,rfl⟩
 | 7,_=>exact⟨10000000,by decide,by decide,rfl⟩
 | 8,_=>exact⟨100000000,by decide,by decide,rfl⟩
 | 9,_=>exact⟨1000000000,by decide,by decide,rfl⟩
 | 10,_=>exact⟨10000000000,by decide,by decide,rfl⟩
 | 11,_=>exact⟨100000000000,by decide,by decide,rfl⟩
 | 12,_=>exact⟨1000000000000,by decide,by decide,rfl⟩
 | 13,_=>exact⟨10000000000000,by decide,by decide,rfl⟩
 | 14,_=>exact⟨100000000000000,by decide,by decide,rfl⟩
 | 15,_=>exact⟨1000000000000000,by decide,by decide,rfl⟩
 | 16,_=>exact⟨10000000000000000,by decide,by decide,rfl⟩
 | 17,_=>exact⟨100000000000000000,by decide,by decide,rfl⟩
 | 18,_=>exact⟨1000000000000000000,by decide,by decide,rfl⟩
theorem ykn (t:Ty)(h:0≤t.p∧t.p≤31∧(t.kind=1→t.p≤9)):DPR 189 [t.av] (retI fun _=>True):=by
 refine zaf eRg zae Tryz.func189 rfl (by decide) rfl rfl ?_
 conv=>whnf
 repeat' ((first|refine Rq.mk (by(first|rfl|((try simp only[rz]);omega))) ?_|refine Br.split (fun h=>?_) (fun h=>?_)<;>(try simp only[bz] at h)|(refine zar rfl (ym0) ?_;rintro _ rfl<;>refine⟨_,rfl,?_⟩)|refine And.intro (a:=zaw _=true) (by kernel_rfl) (LzK.e ?_)|(obtain⟨m,hm0,hm1,hm⟩:=zxy t.p (by omega);rw[hm])|refine Ok3.mk _ rfl ?_)<;>conv=>whnf)
 all_goals exact⟨_,rfl,trivial⟩
theorem yoo (v:Vl)(t:Ty):DPR 141 [v.av,t.av] (retI fun _=>True):=by
 refine zaf eRg zae Tryz.func141 rfl (by decide) rfl rfl ?_
 conv=>whnf
 repeat' ((first|refine Br.split (fun h=>?_) (fun h=>?_)<;>(try simp only[bz] at h)|(refine zaa rfl (zlj _) ?_;rintro _ ⟨n1,rfl,hn1⟩)|(refine zaa rfl (ykn _ (by have:=hn1 (by assumption);omega)) ?_;rintro _ ⟨n2,rfl,hn2⟩))<;>conv=>whnf)
 all_goals exact⟨_,rfl,trivial⟩
theorem zg2 (t:Ty)(v:Vl):DPR 102 [t.av,v.av] (retI fun _=>True):=by
 refine zaf eRg zae Tryz.func102 rfl (by decide) rfl rfl ?_
 conv=>whnf
 repeat' ((first|refine Br.split (fun h=>?_) (fun h=>?_)<;>(try simp only[bz] at h)<;>try (exfalso;omega)|refine zag (fun h=>?_) (fun h=>?_)<;>(try simp only[bz] at h)|(refine zaa rfl (yai _) ?_;rintro _ ⟨b1,rfl,hb1⟩)|(refine zaa rfl (yoo _ _) ?_;rintro _ ⟨n1,rfl,hn1⟩)|(refine zaa rfl (zty _ v.hs) ?_;rintro _ ⟨b2,rfl,hb2⟩)|(refine zaa rfl (zxa _ _ t.hp v.hs) ?_;rintro _ ⟨b3,rfl,hb3⟩))<;>conv=>whnf)
 all_goals exact⟨_,rfl,trivial⟩
theorem zy0 (t:Ty):DPR 220 [t.av] (retI fun n=>ct t=0→(t.kind=2→n=16∨n=32)∧(t.kind=6→n=32)):=by
 refine zaf eRg zae Tryz.func220 rfl (by decide) rfl rfl ?_
 conv=>whnf
 repeat' ((first|refine Rq.mk (by(rfl )) ?_|refine Br.split (fun h=>?_) (fun h=>?_)<;>(try simp only[bz] at h)|refine zag (fun h=>?_) (fun h=>?_)<;>(try simp only[bz] at h)|(refine zaa rfl (zcy _) ?_;rintro _ rfl)|(refine zaa rfl (zw9 _ t.hp) ?_;rintro _ ⟨a1,a2,a3,a4,a5,a6,n2,rfl⟩))<;>conv=>whnf)
 all_goals exact⟨_,rfl,by intro _;constructor<;>intro _<;>omega ⟩
theorem yjj (l:BL Int):DPR 247 [.rsl 1 (l.l.map fun n=>[i64 n])] (retI fun _=>True):=by
 refine zaf eRg zae Tryz.func247 rfl (by decide) rfl rfl ?_
 have hl:=l.h
 conv=>whnf
 refine zai eRg zae [2,5,6] [] 0 (fun i:Nat=>[(7,i64 i)]) (fun _=>[]) [] (fun i=>l.l.length+1 - i) (0) ?_
 conv=>whnf
 refine⟨?_,fun i=>?_⟩
 · conv => whnf
   (repeat' first|exact True.intro|rfl|apply And.intro )
 conv=>whnf
 repeat' ((first|refine Rq.mk (by(first|rfl|((try simp only[rz]);omega))) ?_|refine Br.split (fun h=>?_) (fun h=>?_)<;>(try simp only[bz] at h)|refine Ok3.mk _ (zam (by omega)) ?_)<;>conv=>whnf)
 all_goals first|exact⟨_,rfl,trivial⟩|(refine⟨i+1,(by(conv=>whnf);(repeat' first|exact True.intro|rfl|apply And.intro|(refine cw ?_ ?_ ?_<;>(try dsimp only)<;>omega) )),rfl,(by(try simp only[List.length_map] at *)<;>omega)⟩)
theorem zov {α:Type}{p:α→Prop}{l:List α}{i:Nat}(h:∀u∈l.take i,p u)(hi:i<l.length)(hp:p l[i]):∀u∈l.take (i+1),p u:=by
 intro u hu;rw[List.take_succ_eq_append_getElem hi] at hu;rcases List.mem_append.1 hu with hu|hu
 · exact h u hu
 · simp at hu;subst hu;exact hp
theorem ydk {α:Type}{p:α→Prop}{l:List α}{i:Nat}(h:∀u∈l.take i,p u)(hi:l.length≤i):∀u∈l,p u:=by
 rwa [List.take_of_length_le hi] at h
theorem ygc (t:Ty)(l:BL Ty):DPR 248 [t.av,zjn l.l] (retI fun n=>n=0→∀u∈l.l,u.kind=t.kind):=by
 refine zaf eRg zae Tryz.func248 rfl (by decide) rfl rfl ?_
 have hl:=l.h
 conv=>whnf
 refine zai eRg zae [2,4,7,8] [] 0 (fun i:{i:Nat // ∀u∈l.l.take i,u.kind=t.kind}=>[(9,i64 i.1)]) (fun _=>[]) [] (fun i=>l.l.length+1 - i.1) (⟨0,by simp⟩) ?_
 conv=>whnf
 refine⟨?_,fun i=>?_⟩
 · conv => whnf
   (repeat' first|exact True.intro|rfl|apply And.intro )
 conv=>whnf
 repeat' ((first|refine Rq.mk (by(first|rfl|((try simp only[rz]);omega))) ?_|refine Br.split (fun h=>?_) (fun h=>?_)<;>(try simp only[bz] at h)|refine Ok3.mk _ (zam (by omega)) ?_)<;>conv=>whnf)
 all_goals first|exact⟨_,rfl,fun h0=>absurd h0 (by decide)⟩|exact⟨_,rfl,fun _=>ydk i.2 (by omega)⟩|(refine⟨⟨i.1+1,zov i.2 (by omega) (by assumption)⟩,(by(conv=>whnf);(repeat' first|exact True.intro|rfl|apply And.intro|(refine cw ?_ ?_ ?_<;>(try dsimp only)<;>omega) )),rfl,(by(try simp only[List.length_map] at *)<;>omega)⟩)
theorem zz7 (s:BL UInt8):DPR 179 [.str s.l] (retB fun _=>True):=by
 refine zaf eRg zae Tryz.func179 rfl (by decide) rfl rfl ?_
 have hs:=s.h
 conv=>whnf
 refine zai eRg zae [0,2,6,7] [] 0 (fun i:Nat=>[(8,i64 i)]) (fun _=>[]) [] (fun i=>s.l.length+1 - i) (0) ?_
 conv=>whnf
 refine⟨?_,fun i=>?_⟩
 · conv => whnf
   (repeat' first|exact True.intro|rfl|apply And.intro )
 conv=>whnf
 repeat' ((first|refine Rq.mk (by(first|rfl|((try simp only[rz]);omega))) ?_|refine Br.split (fun h=>?_) (fun h=>?_)<;>(try simp only[bz] at h)|refine zag (fun h=>?_) (fun h=>?_)<;>(try simp only[bz] at h)|refine Ok3.mk _ (zam (by omega)) ?_|(refine zaa rfl (zcz _ _ _) ?_;rintro _ ⟨b1,rfl,hb1⟩))<;>conv=>whnf)
 all_goals first|exact⟨_,rfl,trivial⟩|(refine⟨i+1,(by(conv=>whnf);(repeat' first|exact True.intro|rfl|apply And.intro|(refine cw ?_ ?_ ?_<;>(try dsimp only)<;>omega) )),rfl,(by(try simp only[List.length_map] at *)<;>omega)⟩)
theorem zp9 (p:Prg):DPR 131 [p.av] (retI fun _=>True):=by
 refine zaf eRg zae Tryz.func131 rfl (by decide) rfl rfl ?_
 have hs:=p.procs.h
 conv=>whnf
 refine zai eRg zae [2,7,8] [] 0 (fun i:Nat×Int=>[(9,i64 i.1),(3,i64 i.2)]) (fun _=>[]) [] (fun i=>p.procs.l.length+1 - i.1) (⟨0,0⟩) ?_
 conv=>whnf
 refine⟨?_,fun i=>?_⟩
 · conv => whnf
   (repeat' first|exact True.intro|rfl|apply And.intro )
 conv=>whnf
 repeat' ((first|refine Rq.mk (by(first|rfl|((try simp only[rz]);omega))) ?_|refine Br.split (fun h=>?_) (fun h=>?_)<;>(try simp only[bz] at h)|refine Ok3.mk _ (zam (by omega)) ?_)<;>conv=>whnf)
 all_goals first|exact⟨_,rfl,trivial⟩|(refine⟨(i.1+1,_),(by(conv=>whnf);(repeat' first|exact True.intro|rfl|apply And.intro|(refine cw ?_ ?_ ?_<;>(try dsimp only)<;>omega) )),rfl,(by(try simp only[List.length_map] at *)<;>omega)⟩)
theorem yc1 (t:Ty):DPR 219 [t.av] (retI fun n=>ct t=0→n=1∨n=8∨n=16∨n=32∨n=64):=by
 refine zaf eRg zae Tryz.func219 rfl (by decide) rfl rfl ?_
 conv=>whnf
 repeat' ((first|refine Br.split (fun h=>?_) (fun h=>?_)<;>(try simp only[bz] at h)|(refine zaa rfl (zcy _) ?_;rintro _ rfl)|(refine zaa rfl (zy0 _) ?_;rintro _ ⟨n2,rfl,hn2⟩))<;>conv=>whnf)
 all_goals exact⟨_,rfl,by intro h0;(try have h1:=hn2 h0);omega⟩
theorem zq7 (l:BL Ini)(bits:Int):DPR 178 [zi3 l.l,i64 bits] (retB fun _=>True):=by
 refine zaf eRg zae Tryz.func178 rfl (by decide) rfl rfl ?_
 have hs:=l.h
 conv=>whnf
 refine zai eRg zae [1,4,7,8] [] 0 (fun i:Nat=>[(9,i64 i)]) (fun _=>[]) [] (fun i=>l.l.length+1 - i) (0) ?_
 conv=>whnf
 refine⟨?_,fun i=>?_⟩
 · conv => whnf
   (repeat' first|exact True.intro|rfl|apply And.intro )
 conv=>whnf
 repeat' ((first|refine Rq.mk (by(first|rfl|((try simp only[rz]);(first|first|omega|(have hh:=hn2 (hb1.1 (by assumption)).2;omega))))) ?_|refine Br.split (fun h=>?_) (fun h=>?_)<;>(try simp only[bz] at h)|refine zag (fun h=>?_) (fun h=>?_)<;>(try simp only[bz] at h)|refine Ok3.mk _ (zam (by omega)) ?_|(refine zar rfl (zjf _) ?_;rintro _ ⟨b1,rfl,hb1⟩<;>refine⟨_,rfl,?_⟩)|(refine zar rfl (zg2 _ _) ?_;rintro _ ⟨n1,rfl,hn1⟩<;>refine⟨_,rfl,?_⟩)|(refine zar rfl (yc1 _) ?_;rintro _ ⟨n2,rfl,hn2⟩<;>refine⟨_,rfl,?_⟩)|(refine zar rfl (zy0 _) ?_;rintro _ ⟨n3,rfl,hn3⟩<;>refine⟨_,rfl,?_⟩)|refine And.intro (a:=zaw _=true) (by kernel_rfl) (LzK.e ?_))<;>conv=>whnf)
 all_goals first|exact⟨_,rfl,trivial⟩|(refine⟨i+1,(by(conv=>whnf);(repeat' first|exact True.intro|rfl|apply And.intro|(refine cw ?_ ?_ ?_<;>(try dsimp only)<;>omega) )),rfl,(by(try simp only[List.length_map] at *)<;>omega)⟩)
theorem ze3 (e:Int):DPR 129 [.bool true,i64 e] (fun ae=>ae = .ret (.tup [])):=by
 refine zaf eRg zae Tryz.func129 rfl (by decide) rfl rfl ?_
 conv=>whnf
 all_goals rfl
theorem ze4 (e:Int):DPR 129 [.bool false,i64 e] (fun ae=>ae = .pan (zyh e)):=by
 refine zaf eRg zae Tryz.func129 rfl (by decide) rfl rfl ?_
 conv=>whnf
 all_goals rfl
theorem yji (p:Prg):DPR 132 [p.av] (retU (1≤p.procs.l.length∧p.procs.l.length≤64)):=by
 have h1:=p.files.h;have h2:=p.conds.h;have h3:=p.ctl.h;refine zaf eRg zae Tryz.func132 rfl (by decide) rfl rfl ?_
 conv=>whnf
 repeat' ((first|refine Br.split (fun h=>?_) (fun h=>?_)<;>(try simp only[bz] at h)|refine zag (fun h=>?_) (fun h=>?_)<;>(try simp only[bz] at h)|(refine zaa rfl (ze3 _) ?_;rintro _ rfl)|(refine zaa rfl (ze4 _) ?_;rintro _ rfl)|(refine zaa rfl (zcz _ _ _) ?_;rintro _ ⟨b1,rfl,hb1⟩)|(refine zaa rfl (zug _ _) ?_;rintro _ ⟨b2,rfl,hb2⟩)|(refine zaa rfl (zq7 _ _) ?_;rintro _ ⟨b3,rfl,hb3⟩))<;>conv=>whnf)
 all_goals first|exact .inr ⟨_,rfl,by decide⟩|skip
 refine zai eRg zae [1,43,44] [] 0 (fun i:Nat=>[(45,i64 i)]) (fun _=>[]) [] (fun i=>p.files.l.length+1 - i) (0) ?_
 conv=>whnf
 refine⟨?_,fun i=>?_⟩
 · conv => whnf
   (repeat' first|exact True.intro|rfl|apply And.intro )
 conv=>whnf
 repeat' ((first|refine Rq.mk (by(first|rfl|((try simp only[rz]);omega))) ?_|refine Br.split (fun h=>?_) (fun h=>?_)<;>(try simp only[bz] at h)|refine zag (fun h=>?_) (fun h=>?_)<;>(try simp only[bz] at h)|refine Ok3.mk _ (zam (by omega)) ?_|(refine zaa rfl (ze3 _) ?_;rintro _ rfl)|(refine zaa rfl (ze4 _) ?_;rintro _ rfl)|(refine zaa rfl (zcz _ _ _) ?_;rintro _ ⟨b1,rfl,hb1⟩)|(refine zaa rfl (zz7 _) ?_;rintro _ ⟨b4,rfl,hb4⟩))<;>conv=>whnf)
 all_goals first|exact .inr ⟨_,rfl,by decide⟩|(refine⟨i+1,(by(conv=>whnf);(repeat' first|exact True.intro|rfl|apply And.intro|(refine cw ?_ ?_ ?_<;>(try dsimp only)<;>omega) )),rfl,(by(try simp only[List.length_map] at *)<;>omega)⟩)|skip
 refine zai eRg zae [1,60,61] [] 0 (fun i:Nat=>[(62,i64 i)]) (fun _=>[]) [] (fun i=>p.conds.l.length+1 - i) (0) ?_
 conv=>whnf
 refine⟨?_,fun i=>?_⟩
 · conv => whnf
   (repeat' first|exact True.intro|rfl|apply And.intro )
 conv=>whnf
 repeat' ((first|refine Rq.mk (by(first|rfl|((try simp only[rz]);omega))) ?_|refine Br.split (fun h=>?_) (fun h=>?_)<;>(try simp only[bz] at h)|refine zag (fun h=>?_) (fun h=>?_)<;>(try simp only[bz] at h)|refine Ok3.mk _ (zam (by omega)) ?_|(refine zaa rfl (ze3 _) ?_;rintro _ rfl)|(refine zaa rfl (ze4 _) ?_;rintro _ rfl)|(refine zaa rfl (zz7 _) ?_;rintro _ ⟨b4,rfl,hb4⟩))<;>conv=>whnf)
 all_goals first|exact .inr ⟨_,rfl,by decide⟩|(refine⟨i+1,(by(conv=>whnf);(repeat' first|exact True.intro|rfl|apply And.intro|(refine cw ?_ ?_ ?_<;>(try dsimp only)<;>omega) )),rfl,(by(try simp only[List.length_map] at *)<;>omega)⟩)|skip
 refine zai eRg zae [71,72] [] 0 (fun i:Nat=>[(73,i64 i)]) (fun _=>[]) [] (fun i=>p.ctl.l.length+1 - i) (0) ?_
 conv=>whnf
 refine⟨?_,fun i=>?_⟩
 · conv => whnf
   (repeat' first|exact True.intro|rfl|apply And.intro )
 conv=>whnf
 repeat' ((first|refine Rq.mk (by(first|rfl|((try simp only[rz]);omega))) ?_|refine Br.split (fun h=>?_) (fun h=>?_)<;>(try simp only[bz] at h)|refine zag (fun h=>?_) (fun h=>?_)<;>(try simp only[bz] at h)|refine Ok3.mk _ (zam (by omega)) ?_|(refine zaa rfl (ze3 _) ?_;rintro _ rfl)|(refine zaa rfl (ze4 _) ?_;rintro _ rfl)|(refine zaa rfl (zug _ _) ?_;rintro _ ⟨b2,rfl,hb2⟩))<;>conv=>whnf)
 all_goals first|exact .inr ⟨_,rfl,by decide⟩|(refine⟨i+1,(by(conv=>whnf);(repeat' first|exact True.intro|rfl|apply And.intro|(refine cw ?_ ?_ ?_<;>(try dsimp only)<;>omega) )),rfl,(by(try simp only[List.length_map] at *)<;>omega)⟩)|skip
 all_goals exact .inl ⟨rfl,by simp_all;omega⟩
theorem yif (p:Prg):DPR 133 [p.av] (retU (zd1 p.procs.l)):=by
 have h1:=p.procs.h;refine zaf eRg zae Tryz.func133 rfl (by decide) rfl rfl ?_
 conv=>whnf
 refine zai eRg zae [5,6] [] 0 (fun i:{i:Nat // ProcsN p.procs.l i}=>[(7,i64 i.1)]) (fun _=>[]) [] (fun i=>p.procs.l.length+1 - i.1) (⟨0,fun _ _ h=>absurd h (by omega)⟩) ?_
 conv=>whnf
 refine⟨?_,fun i=>?_⟩
 · conv => whnf
   (repeat' first|exact True.intro|rfl|apply And.intro )
 conv=>whnf
 repeat' ((first|refine Rq.mk (by(first|rfl|((try simp only[rz]);omega))) ?_|refine Br.split (fun h=>?_) (fun h=>?_)<;>(try simp only[bz] at h)<;>try (exfalso;omega)|refine zag (fun h=>?_) (fun h=>?_)<;>(try simp only[bz] at h)|refine Ok3.mk _ (zam (by omega)) ?_|refine Ok3.mk _ (za2 (by omega)) ?_|(refine zaa rfl (ze3 _) ?_;rintro _ rfl)|(refine zaa rfl (ze4 _) ?_;rintro _ rfl)|(refine zaa rfl (zcz _ _ _) ?_;rintro _ ⟨b1,rfl,hb1⟩)|(refine zaa rfl (zug _ _) ?_;rintro _ ⟨b2,rfl,hb2⟩)|(refine zaa rfl (zq7 _ _) ?_;rintro _ ⟨b3,rfl,hb3⟩)|(refine zaa rfl (zz7 _) ?_;rintro _ ⟨b4,rfl,hb4⟩)|(refine zaa rfl (zjf _) ?_;rintro _ ⟨b5,rfl,hb5⟩))<;>conv=>whnf)
 all_goals first|exact .inr ⟨_,rfl,by decide⟩|(refine⟨⟨i.1+1,i.2.succ (by omega) ?_⟩,(by(conv=>whnf);(repeat' first|exact True.intro|rfl|apply And.intro|(refine cw ?_ ?_ ?_<;>(try dsimp only)<;>omega) )),rfl,(by(try simp only[List.length_map] at *)<;>omega)⟩)|skip
 all_goals first
  | exact .inl ⟨rfl,fun k hk h=>i.2 k hk (by omega)⟩
  | exact⟨fun _=>by assumption,fun h0=>absurd (by omega) h0,by omega,by omega,by omega⟩
  | (have hw : wr .i64 ((i.1:Int) - 1) = (i.1:Int) - 1 := wr64 (by omega) (by omega)
     simp_all[POK]<;>omega)
theorem ynm {l:List Prc}(h:zd1 l){n:Int}(hn:0≤n∧n<l.length):(l[n.toNat]'(by omega)).parent<n∧-1≤(l[n.toNat]'(by omega)).parent:=by
 have:=h n.toNat (by omega) (by omega)
 obtain⟨h1,h2,_⟩:=this
 by_cases h0:n.toNat=0
 · have:=h1 h0;omega
 · have:=h2 h0;omega
theorem up_d (p:Prg)(hp:zd1 p.procs.l)(a b:Int)(ha:a<p.procs.l.length):DPR 223 [p.av,i64 a,i64 b] (retI fun n=>True):=by
 refine zaf eRg zae Tryz.func223 rfl (by decide) rfl rfl ?_
 conv=>whnf
 refine zai eRg zae [2,3,6] [] 0 (fun i:{i:Int×Int // i.1<p.procs.l.length}=>[(1,i64 i.1.1),(7,i64 i.1.2)]) (fun _=>[]) [] (fun i=>(i.1.1+1).toNat) (⟨(a,0),ha⟩) ?_
 conv=>whnf
 refine⟨?_,fun i=>?_⟩
 · conv => whnf
   (repeat' first|exact True.intro|rfl|apply And.intro )
 conv=>whnf
 repeat' ((first|refine Rq.mk (by(first|rfl|((try simp only[rz]);omega))) ?_|refine Br.split (fun h=>?_) (fun h=>?_)<;>(try simp only[bz] at h)|refine Ok3.mk _ (za2 (by omega)) ?_)<;>conv=>whnf)
 all_goals first|exact⟨_,rfl,trivial⟩|(have hh:=ynm hp (n:=i.1.1) (by omega);refine⟨⟨((p.procs.l[i.1.1.toNat]'(by omega)).parent,_),?_⟩,(by(conv=>whnf);(repeat' first|exact True.intro|rfl|apply And.intro )),rfl,?_⟩<;>dsimp only<;>omega)
theorem zg5 (n lo hi:Int):DPR 130 [i64 n,i64 lo,i64 hi] (retD (lo≤n∧n≤hi)):=(zcz n lo hi).dec
theorem zj7 (n:Int)(m:Nat)(hm:m<281474976710656):DPR 222 [i64 n,i64 m] (retD (0≤n∧n<m)):=by
 have h:=(yf5 n m).dec;rw[wr64 (by omega) (by omega)] at h
 have e:(0≤n∧n≤(m:Int) - 1)↔(0≤n∧n<m):=by omega
 rwa [propext e] at h
theorem ygb (p:Prg)(hp:zd1 p.procs.l)(a b:Int)(ha:a<p.procs.l.length):DPR 251 [p.av,i64 a,i64 b] (retB fun x=>x=true→1≤b∧b<p.procs.l.length):=by
 refine zaf eRg zae Tryz.func251 rfl (by decide) rfl rfl ?_
 have hl:=p.procs.h;have hw:wr .i64 ((p.procs.l.length:Int) - 1)=(p.procs.l.length:Int) - 1:=wr64 (by omega) (by omega)
 conv=>whnf
 repeat' ((first|refine Rq.mk (by(first|rfl|((try simp only[rz]);omega))) ?_|refine Br.split (fun h=>?_) (fun h=>?_)<;>(try simp only[bz] at h)|refine Ok3.mk _ (za2 (by omega)) ?_|(refine zar rfl (zg5 _ _ _) ?_;rintro _ (⟨rfl,hb1⟩|⟨rfl,hb1⟩)<;>simp only[hw,List.length_map] at hb1<;>refine⟨_,rfl,?_⟩)|(refine zar rfl (up_d _ hp _ _ ha) ?_;rintro _ ⟨n1,rfl,hn1⟩<;>refine⟨_,rfl,?_⟩)|refine And.intro (a:=zaw _=true) (by kernel_rfl) (LzK.e ?_))<;>conv=>whnf)
 all_goals first|exact⟨_,rfl,fun _=>by omega⟩|exact⟨_,rfl,fun h=>by cases h⟩
theorem ygs (c:Ck)(n k:Int):DPR 226 [c.av,i64 n,i64 k] (retB fun _=>True):=by
 refine zaf eRg zae Tryz.func226 rfl (by decide) rfl rfl ?_
 have hl:=c.p.procs.h;have hl2:=c.ar.h;have hl3:=c.p.files.h;have hl4:=c.p.ctl.h;have hl5:=c.p.conds.h;have hpr:=c.hproc
 conv=>whnf
 repeat' ((first|refine Rq.mk (by(first|rfl|((try simp only[rz]);omega))) ?_|refine Br.split (fun h=>?_) (fun h=>?_)<;>(try simp only[bz] at h)|refine Ok3.mk _ (za2 (by omega)) ?_|(refine zaa rfl (zj7 _ _ (by simp only[List.length_map];omega)) ?_;rintro _ (⟨rfl,hb1⟩|⟨rfl,hb1⟩)<;>simp only[List.length_map] at hb1))<;>conv=>whnf)
 all_goals exact⟨_,rfl,trivial⟩
theorem zx5 (c:Ck)(n k:Int):DPR 225 [c.av,i64 n,i64 k] (retB fun _=>True):=by
 refine zaf eRg zae Tryz.func225 rfl (by decide) rfl rfl ?_
 have hl:=c.p.procs.h;have hl2:=c.ar.h;have hl3:=c.p.files.h;have hl4:=c.p.ctl.h;have hl5:=c.p.conds.h;have hpr:=c.hproc
 conv=>whnf
 repeat' ((first|refine Br.split (fun h=>?_) (fun h=>?_)<;>(try simp only[bz] at h)|refine zag (fun h=>?_) (fun h=>?_)<;>(try simp only[bz] at h)|(refine zaa rfl (zj7 _ _ (by simp only[List.length_map];omega)) ?_;rintro _ (⟨rfl,hb1⟩|⟨rfl,hb1⟩)<;>simp only[List.length_map] at hb1)|(refine zaa rfl (ygs _ _ _) ?_;rintro _ ⟨b2,rfl,hb2⟩)|(refine zaa rfl (zcz _ _ _) ?_;rintro _ ⟨b3,rfl,hb3⟩))<;>conv=>whnf)
 all_goals exact⟨_,rfl,trivial⟩
theorem zzs (c:Ck)(q n:Int)(hq:0≤q∧q<c.p.procs.l.length):DPR 221 [c.av,i64 q,i64 n] (retB fun _=>True):=by
 refine zaf eRg zae Tryz.func221 rfl (by decide) rfl rfl ?_
 have hl:=c.p.procs.h;have hl2:=c.ar.h;have hl3:=c.p.files.h;have hl4:=c.p.ctl.h;have hl5:=c.p.conds.h;have hpr:=c.hproc
 conv=>whnf
 repeat' ((first|refine Rq.mk (by(first|rfl|((try simp only[rz]);omega))) ?_|refine zag (fun h=>?_) (fun h=>?_)<;>(try simp only[bz] at h)|refine Ok3.mk _ (za2 (by omega)) ?_|(refine zaa rfl (zcz _ _ _) ?_;rintro _ ⟨b3,rfl,hb3⟩))<;>conv=>whnf)
 all_goals exact⟨_,rfl,trivial⟩
theorem ydj (c:Ck)(n r k:Int):DPR 224 [c.av,i64 n,i64 r,i64 k] (retB fun _=>True):=by
 refine zaf eRg zae Tryz.func224 rfl (by decide) rfl rfl ?_
 have hl:=c.p.procs.h;have hl2:=c.ar.h;have hl3:=c.p.files.h;have hl4:=c.p.ctl.h;have hl5:=c.p.conds.h;have hpr:=c.hproc
 conv=>whnf
 repeat' ((first|refine Rq.mk (by(first|rfl|((try simp only[rz]);((have hh:=hb3 (by assumption);omega))))) ?_|refine Br.split (fun h=>?_) (fun h=>?_)<;>(try simp only[bz] at h)|refine zag (fun h=>?_) (fun h=>?_)<;>(try simp only[bz] at h)|refine Ok3.mk _ (za2 (by((have hh:=hb3 (by assumption);omega)))) ?_|(refine zar rfl (ygb _ c.hp _ _ hpr.2) ?_;rintro _ ⟨b3,rfl,hb3⟩<;>refine⟨_,rfl,?_⟩)|refine And.intro (a:=zaw _=true) (by kernel_rfl) (LzK.e ?_))<;>conv=>whnf)
 all_goals exact⟨_,rfl,trivial⟩
theorem ygh {d:Nat}(l:BL (List AV))(hex:∀x∈l.l,ExD d x)(k:Int):DPR 232 [.rsl 11 l.l,i64 k] (retB fun _=>True):=by
 refine zaf eRg zae Tryz.func232 rfl (by decide) rfl rfl ?_
 have hs:=l.h
 conv=>whnf
 refine zai eRg zae [1,4,7,8] [] 0 (fun i:Nat=>[(9,i64 i)]) (fun _=>[]) [] (fun i=>l.l.length+1 - i) (0) ?_
 conv=>whnf
 refine⟨?_,fun i=>?_⟩
 · conv => whnf
   (repeat' first|exact True.intro|rfl|apply And.intro )
 conv=>whnf
 repeat' ((first|refine Rq.mk (by(first|rfl|((try simp only[rz]);omega))) ?_|refine Br.split (fun h=>?_) (fun h=>?_)<;>(try simp only[bz] at h)|(obtain⟨op,t,v,m,l1,r1,he,hl1,hr1⟩:=zz0 hex (n:=(i:Int)) (by omega);refine Ok3.mk _ he ?_;clear he))<;>conv=>whnf)
 all_goals first|exact⟨_,rfl,trivial⟩|(refine⟨i+1,(by(conv=>whnf);(repeat' first|exact True.intro|rfl|apply And.intro|(refine cw ?_ ?_ ?_<;>(try dsimp only)<;>omega) )),rfl,(by(try simp only[List.length_map] at *)<;>omega)⟩)
theorem yak {EP:List AV→Prop}(l:BL (List AV))(hex:∀x∈l.l,RfP EP x)(k:Int):DPR 233 [.rsl 11 l.l,i64 k] (retB fun _=>True):=by
 refine zaf eRg zae Tryz.func233 rfl (by decide) rfl rfl ?_
 have hs:=l.h
 conv=>whnf
 refine zai eRg zae [1,4,7,8] [] 0 (fun i:Nat=>[(9,i64 i)]) (fun _=>[]) [] (fun i=>l.l.length+1 - i) (0) ?_
 conv=>whnf
 refine⟨?_,fun i=>?_⟩
 · conv => whnf
   (repeat' first|exact True.intro|rfl|apply And.intro )
 conv=>whnf
 repeat' ((first|refine Rq.mk (by(first|rfl|((try simp only[rz]);omega))) ?_|refine Br.split (fun h=>?_) (fun h=>?_)<;>(try simp only[bz] at h)|(obtain⟨rb,ru,rm,ro,rp,rs,t,he,hp1,hs1⟩:=zl2 hex (n:=(i:Int)) (by omega);refine Ok3.mk _ he ?_;clear he))<;>conv=>whnf)
 all_goals first|exact⟨_,rfl,trivial⟩|(refine⟨i+1,(by(conv=>whnf);(repeat' first|exact True.intro|rfl|apply And.intro|(refine cw ?_ ?_ ?_<;>(try dsimp only)<;>omega) )),rfl,(by(try simp only[List.length_map] at *)<;>omega)⟩)
theorem zzk:DPR 261 [] (fun ae=>ae = .ret (.agg [i64 6,i64 0,i64 0,.bool false,.str []])):=by
 refine zaf eRg zae Tryz.func261 rfl (by decide) rfl rfl ?_
 conv=>whnf
 all_goals rfl
theorem ycs (p:Int):DPR 262 [i64 p] (fun ae=>ae = .ret (.agg [i64 2,i64 p,i64 0,.bool false,.str []])):=by
 refine zaf eRg zae Tryz.func262 rfl (by decide) rfl rfl ?_
 conv=>whnf
 all_goals rfl
theorem zyj (p:Int):DPR 263 [i64 p] (fun ae=>ae = .ret (.agg [i64 3,i64 p,i64 0,.bool true,.str []])):=by
 refine zaf eRg zae Tryz.func263 rfl (by decide) rfl rfl ?_
 conv=>whnf
 all_goals rfl
theorem zok:DPR 194 [] (fun ae=>ae = .ret (.agg [i64 4,i64 1,i64 0,.bool false,.str []])):=by
 refine zaf eRg zae Tryz.func194 rfl (by decide) rfl rfl ?_
 conv=>whnf
 all_goals rfl
theorem zx4 (l:BL Fm)(n:Int):DPR 227 [zrd l.l,i64 n] (retB fun _=>True):=by
 refine zaf eRg zae Tryz.func227 rfl (by decide) rfl rfl ?_
 have hs:=l.h
 conv=>whnf
 refine zai eRg zae [0,1,4,8,9] [] 0 (fun i:Nat×Int=>[(10,i64 i.1),(5,i64 i.2)]) (fun _=>[]) [] (fun i=>l.l.length+1 - i.1) (⟨0,0⟩) ?_
 conv=>whnf
 refine⟨?_,fun i=>?_⟩
 · conv => whnf
   (repeat' first|exact True.intro|rfl|apply And.intro )
 conv=>whnf
 repeat' ((first|refine Rq.mk (by(first|rfl|((try simp only[rz]);omega))) ?_|refine Br.split (fun h=>?_) (fun h=>?_)<;>(try simp only[bz] at h)<;>try (exfalso;omega)|refine zag (fun h=>?_) (fun h=>?_)<;>(try simp only[bz] at h)|refine Ok3.mk _ (zam (by omega)) ?_|(refine zaa rfl (zcz _ _ _) ?_;rintro _ ⟨b1,rfl,hb1⟩)|(refine zaa rfl (zcy ⟨5,0,0,false,_,l.l[i.1].pic.h⟩) ?_;rintro _ rfl))<;>conv=>whnf)
 all_goals first|exact⟨_,rfl,trivial⟩|(refine⟨(i.1+1,_),(by(conv=>whnf);(repeat' first|exact True.intro|rfl|apply And.intro|(refine cw ?_ ?_ ?_<;>(try dsimp only)<;>omega) )),rfl,(by(try simp only[List.length_map] at *)<;>omega)⟩)
theorem yof (c:Ck)(u:Int):DPR 259 [c.av,i64 u] (fun ae=>(∃q:Prc,ae = .ret (.tup [q.av,.bool true]))∨ae = .ret (.tup [.agg [.str [],i64 0,i64 0,i64 0,.nils,.nils,.nils],.bool false])):=by
 refine zaf eRg zae Tryz.func259 rfl (by decide) rfl rfl ?_
 have hl:=c.p.procs.h;have hl2:=c.ar.h;have hl3:=c.p.files.h;have hl4:=c.p.ctl.h;have hl5:=c.p.conds.h;have hpr:=c.hproc
 conv=>whnf
 repeat' ((first|refine Rq.mk (b:=chk3 _ _ _ _ _ _) (by kernel_rfl) ?_|refine Rq.mk (by(first|rfl|((try simp only[rz]);(first|omega|(have hh:=c.har _ (List.getElem_mem (n:=u.toNat) (by omega));omega))))) ?_|refine Ok3.mk _ (za2 (by(first|omega|(have hh:=c.har _ (List.getElem_mem (n:=u.toNat) (by omega));omega)))) ?_|(refine zaa rfl (zj7 _ _ (by simp only[List.length_map];omega)) ?_;rintro _ (⟨rfl,hb1⟩|⟨rfl,hb1⟩)<;>simp only[List.length_map] at hb1)|refine And.intro (a:=zaw _=true) (by kernel_rfl) (LzK.e ?_))<;>conv=>whnf)
 all_goals first|exact .inr rfl|exact .inl ⟨_,rfl⟩
theorem yhi {d:Nat}(l:BL (List AV))(hex:∀x∈l.l,ExD d x)(hlen:l.l.length≤1000):DPR 264 [.rsl 11 l.l] (fun ae=>∃ts:List Ty,ts.length≤l.l.length∧ae = .ret (bif ts.isEmpty then .nils else zjn ts)):=by
 have hs:=l.h;refine zaf eRg zae Tryz.func264 rfl (by decide) rfl rfl ?_
 conv=>whnf
 refine zai eRg zae [0,6,7] [] 2000 (fun i:{i:Nat×List Ty // i.2.length≤i.1∧i.1≤l.l.length}=>[(8,i64 i.1.1),(3,accV 1000 5 (i.1.2.map Ty.cells))]) (fun i=>accH 1000 5 (i.1.2.map Ty.cells)) [(1000,.slot 3)] (fun i=>l.l.length+1 - i.1.1) (⟨(0,[]),Nat.le_refl _,Nat.zero_le _⟩) ?_
 conv=>whnf
 refine⟨?_,fun i=>?_⟩
 · conv => whnf
   (repeat' first|exact True.intro|rfl|apply And.intro )
 rcases i with⟨⟨i,_|⟨y,acc⟩⟩,hi⟩
 · conv => whnf
   repeat' ((first|refine Br.f (b:=Nat.beq _ _) rfl ?_|refine Rq.mk (by(first|rfl|((try simp only[rz]);omega))) ?_|refine Br.split (fun h=>?_) (fun h=>?_)<;>(try simp only[zhw,yi1,List.length_map,List.length_cons,List.length_nil,zrj,yez,yiw,yix,yit,yiu,Bool.not_eq_true',Bool.not_eq_false'] at h)|(obtain⟨op,t,v,m,l1,r1,he,hl1,hr1⟩:=zz0 hex (n:=(i:Int)) (by omega);refine Ok3.mk _ he ?_;clear he))<;>conv=>whnf)
   all_goals first|exact⟨[],Nat.zero_le _,rfl⟩|(refine⟨⟨(i+1,[t]),(by simp only[List.length_cons,List.length_nil];omega)⟩,(by(conv=>whnf);(repeat' first|exact True.intro|rfl|apply And.intro|(refine cw ?_ ?_ ?_<;>(try dsimp only)<;>omega) )),rfl,(by(try simp only[List.length_map] at *)<;>omega)⟩)
 · conv => whnf
   repeat' ((first|refine Br.f (b:=Nat.beq _ _) rfl ?_|refine Rq.mk (zcg 48 1000 (by simp) rfl rfl (by simp only[List.length_cons,List.length_map] at hi ⊢;omega) (by decide)) ?_|refine Rq.mk (by(first|rfl|((try simp only[rz]);omega))) ?_|refine Br.split (fun h=>?_) (fun h=>?_)<;>(try simp only[zhw,yi1,List.length_map,List.length_cons,List.length_nil,zrj,yez,yiw,yix,yit,yiu,Bool.not_eq_true',Bool.not_eq_false'] at h)|(obtain⟨op,t,v,m,l1,r1,he,hl1,hr1⟩:=zz0 hex (n:=(i:Int)) (by omega);refine Ok3.mk _ he ?_;clear he))<;>conv=>whnf)
   all_goals first
    | (refine⟨⟨(i+1,y::(acc++[t])),(by simp only[List.length_cons,List.length_append,List.length_nil] at hi ⊢;omega)⟩,(by(conv=>whnf);(repeat' first|exact True.intro|apply And.intro|exact zat (by rfl) (by rfl) (by simp) (by rfl)|exact za4 (by rfl) (za7 (f:=Ty.cells) (fun _=>by rfl) (by rfl) (by simp))|exact zaj (f:=Ty.cells) (fun _=>by rfl)|(refine cw ?_ ?_ ?_<;>(try dsimp only)<;>omega)|rfl )),rfl,(by(try simp only[List.length_map] at *)<;>omega)⟩)
    | (erw [zin (f := Ty.cells) (fun _ => by rfl) (by rfl)]; conv => whnf
       exact⟨y::acc,(by simp only[List.length_cons] at hi ⊢;omega),rfl⟩)
attribute [local semireducible] DP in
theorem znb {g:FuncId}{args:List AV}{α:Type}{f:α→List AV}{sz:Nat}{p:List α→Prop}(h:DPR g args (fun ae=>∃l:List α,ae = .ret (bif l.isEmpty then .nils else .rsl sz (l.map f))∧p l)):DPR g args (fun ae=>∃l:List α,ae = .ret (.rsl sz (l.map f))∧p l):=by
 obtain⟨_,h,l,rfl,hp⟩:=h;cases l with
 | nil =>
   refine⟨.ret (.rsl sz []),⟨h.1,fun c w vs h1 h2 h3=>(h.2 c w vs h1 h2 h3).mono ?_⟩,[],rfl,hp⟩
   rintro e w' ⟨c',_,g1,g2,g3,g4,rfl⟩
   refine⟨c',_,g1,g2,g3,?_,rfl⟩;cases e with
   | returned v=>cases g4;exact .rnil _
   | _=>exact g4.elim
 | cons x l=>exact⟨_,h,x::l,rfl,hp⟩
theorem yhj {d:Nat}(l:BL (List AV))(hex:∀x∈l.l,ExD d x)(hlen:l.l.length≤1000):DPR 264 [.rsl 11 l.l] (fun ae=>∃ts:BL Ty,ae = .ret (zjn ts.l)):=by
 refine(znb (f:=Ty.cells) (sz:=5) (p:=fun ts=>ts.length≤l.l.length) ((yhi l hex hlen).mono ?_)).mono ?_
 · rintro _ ⟨ts,h,rfl⟩;exact⟨ts,rfl,h⟩
 · rintro _ ⟨ts,rfl,h⟩;exact⟨⟨ts,by omega⟩,rfl⟩
theorem yn5 (l:BL Ty)(s:List UInt8):DPR 250 [zjn l.l,.str s] (retB fun b=>b=true→l.l.length=s.length):=by
 refine zaf eRg zae Tryz.func250 rfl (by decide) rfl rfl ?_
 have hs:=l.h
 conv=>whnf
 repeat' first
  | (refine Br.split (fun h=>?_) (fun h=>?_)<;>(try simp only[bz] at h)<;>(conv=>whnf))
 all_goals first|exact⟨_,rfl,fun h=>absurd h (by decide)⟩|skip
 refine zai eRg zae [1,4,12,13] [] 0 (fun i:Nat=>[(14,i64 i)]) (fun _=>[]) [] (fun i=>l.l.length+1 - i) (0) ?_
 conv=>whnf
 refine⟨?_,fun i=>?_⟩
 · conv => whnf
   (repeat' first|exact True.intro|rfl|apply And.intro )
 conv=>whnf
 repeat' ((first|refine Rq.mk (by(first|rfl|((try simp only[rz]);omega))) ?_|refine Br.split (fun h=>?_) (fun h=>?_)<;>(try simp only[bz] at h)|refine zag (fun h=>?_) (fun h=>?_)<;>(try simp only[bz] at h)|refine Ok3.mk _ (zam (by omega)) ?_|(refine zaa rfl (zx1 _) ?_;rintro _ ⟨b1,rfl,hb1⟩)|(refine zaa rfl (ycq _) ?_;rintro _ ⟨b2,rfl,hb2⟩)|(refine zaa rfl (yal _) ?_;rintro _ ⟨b3,rfl,hb3⟩))<;>conv=>whnf)
 all_goals first|exact⟨_,rfl,fun h=>absurd h (by decide)⟩|exact⟨_,rfl,fun _=>by omega⟩|(refine⟨i+1,(by(conv=>whnf);(repeat' first|exact True.intro|rfl|apply And.intro|(refine cw ?_ ?_ ?_<;>(try dsimp only)<;>omega) )),rfl,(by(try simp only[List.length_map] at *)<;>omega)⟩)
end Go.Ago
