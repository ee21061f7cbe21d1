/-
  Part 22: lemmas, each with its own conditions.
-/
import Derived.Test.YthaolifcglpkdaaGreatDoorA20
import Derived.Test.YthaolifcglpkdaaGreatDoorA21
set_option maxRecDepth 100000
set_option maxHeartbeats 0
set_option linter.all false
namespace Go.Ago
open Go.Proofs
attribute [local irreducible] ltI leI eqI eqS shrI wr inB mmI comp DC DP DW DV DY
abbrev yig (r:List UInt8):AV := .rptr [.str r,.bool false,i64 r.length,i64 0,i64 0,.bool false,.nils,.int .u8 0,i64 0,.bool false,.int .u8 0,i64 0]
def yqr (ae:AE):Prop:=ae = .ret (.tup [.nilp,.bool false])∨(∃r:List UInt8,r.length≤32∧ae = .ret (.tup [yig r,.bool true]))∨(∃f:Fo,ae = .ret (.tup [f.av,.bool true])∧FoOK f)
theorem zzg (s:List UInt8)(hs:s.length<281474976710656):DPR 190 [.str s] yqr:=by
 refine zaf eRg zae Tryz.func190 rfl (by decide) rfl rfl ?_
 conv=>whnf
 repeat' ((first|refine Br.split (fun h=>?_) (fun h=>?_)<;>(try simp only[bz] at h)|refine zag (fun h=>?_) (fun h=>?_)<;>(try simp only[bz] at h)|(refine zaa rfl (yew _ (by omega)) ?_;rintro _ ⟨r,b,rfl,hb⟩)|(refine zaa rfl (yf1 _ _ (by have:=hb (by assumption);omega) (by decide) (zpz (by decide))) ?_;rintro _ rfl)|(refine zaa rfl (zjd _ _ (by have:=hb (by assumption);omega) (by decide) (hb (by assumption)).2.2 (zpz (by decide))) ?_;rintro _ rfl)|(refine zaa rfl (zz3 _ (hb (by assumption)).1 (hb (by assumption)).2.1 (hb (by assumption)).2.2) ?_;rintro _ (rfl|⟨f,rfl,hf,hfs⟩)))<;>conv=>whnf)
 all_goals first|exact .inl rfl|exact .inr (.inl ⟨_,(hb (by assumption)).1,rfl⟩)|exact .inr (.inr ⟨_,rfl,hf⟩)
theorem ye3 (s:List UInt8)(hs:s.length<281474976710656):DPR 242 [.str s] (fun ae=>ae = .ret (.tup [.nilp,.bool false])∨(∃f:Fo,ae = .ret (.tup [f.av,.bool true])∧FoOK f)):=by
 refine zaf eRg zae Tryz.func242 rfl (by decide) rfl rfl ?_
 conv=>whnf
 repeat' first
  | (refine zaa rfl (zzg _ hs) ?_;rintro _ (rfl|⟨r,hr,rfl⟩|⟨⟨spec,num,width,digits,scale,signed,roles,drift,first,credit,fill,firms,fs,fr⟩,rfl,hf⟩)<;>first|(obtain rfl:num=true:=hf.num;conv=>whnf)|(conv=>whnf))
 all_goals first|exact .inl rfl|exact .inr ⟨_,rfl,hf⟩
theorem zzv (s:List UInt8)(hs:s.length<281474976710656):DPR 236 [.str s] (fun ae=>∃(a:List UInt8) (b:Bool) (c d e:Int) (g:Bool) (n:Int),ae = .ret (.tup [.agg [.str a,.bool b,i64 c,i64 d,i64 e,.bool g],i64 n])):=by
 refine zaf eRg zae Tryz.func236 rfl (by decide) rfl rfl ?_
 conv=>whnf
 repeat' first
  | (refine zaa rfl (zzg _ hs) ?_;rintro _ (rfl|⟨r,hr,rfl⟩|⟨⟨spec,num,width,digits,scale,signed,roles,drift,first,credit,fill,firms,fs,fr⟩,rfl,hf⟩)<;>first|(obtain rfl:num=true:=hf.num;conv=>whnf)|(conv=>whnf))
 all_goals exact⟨_,_,_,_,_,_,_,rfl⟩
theorem zx0 (s:List UInt8)(hs:s.length<281474976710656):DPR 188 [.str s] (retI fun _=>True):=by
 refine zaf eRg zae Tryz.func188 rfl (by decide) rfl rfl ?_
 conv=>whnf
 repeat' first
  | (refine zaa rfl (zzv _ hs) ?_;rintro _ ⟨_,_,_,_,_,_,_,rfl⟩<;>conv=>whnf)
 all_goals exact⟨_,rfl,trivial⟩
theorem zls {l:List Int}{i:Nat}(h:i<l.length):∃r:Int,(l.map fun n=>[i64 n])[((i:Nat):Int).toNat]? = some [i64 r]∧r∈l∧(r=2→wid (l.take (i+1))=wid (l.take i))∧(r≠2→wid (l.take (i+1))=wid (l.take i)+1) ∧
 (r=0→dig (l.take (i+1))=dig (l.take i)+1)∧(r=1→dig (l.take (i+1))=dig (l.take i)+1)∧(r≠0→r≠1→dig (l.take (i+1))=dig (l.take i))∧dig (l.take (i+1))≤dig l∧wid (l.take (i+1))≤wid l:=by
 have ht:l.take (i+1)=l.take i++[l[i]]:=by simp
 have hw:∀r,wid (l.take i++[r])=wid (l.take i)+wid [r]:=fun r=>by rw[wid,List.filter_append,List.length_append];rfl
 have hd:∀r,dig (l.take i++[r])=dig (l.take i)+dig [r]:=fun r=>by rw[dig,List.filter_append,List.length_append];rfl
 refine⟨l[i],by simp[h],List.getElem_mem h,?_,?_,?_,?_,?_,?_,?_⟩
 · intro e;rw[ht,hw,e];rfl
 · intro e;rw[ht,hw,widn e]
 · intro e;rw[ht,hd,e];rfl
 · intro e;rw[ht,hd,e];rfl
 · intro e e';rw[ht,hd,dign e e'];rfl
 · exact((List.take_sublist _ _).filter _).length_le
 · exact((List.take_sublist _ _).filter _).length_le
structure En (l:List Int) where
 i:Nat
 k:Nat
 hi:i≤l.length
 hk:k≤dig (l.take i)
abbrev ynk (f:Fo)(num:List UInt8)(m:Bool)(u a ld:Int):AV := .rptr [f.av,.str num,.bool m,i64 u,i64 a,i64 ld]
theorem ygu (f:Fo)(hf:FoOK f)(num:List UInt8)(hn:num.length=dig f.roles)(m:Bool)(u a ld:Int):DPR 287 [ynk f num m u a ld] (fun ae=>∃n:Int,ae = .ret (i64 n)∧-1≤n∧n≤wid f.roles):=by
 refine zaf eRg zae Tryz.func287 rfl (by decide) rfl rfl ?_
 have hr:=f.hr;have hl:=hf.d1;have hwl:=znp f.roles
 conv=>whnf
 repeat' ((first|refine Br.split (fun h=>?_) (fun h=>?_)<;>(try simp only[bz] at h)|(refine zaa rfl (yf1 _ _ (by omega) (by decide) (zpz (by decide))) ?_;rintro _ rfl))<;>conv=>whnf)
 all_goals
  refine zai eRg zae [0,2,3,4,5,6,23,24] [] 0 (fun i:Nat=>[(25,i64 i)]) (fun _=>[]) [] (fun i=>f.roles.length+1 - i) (0) ?_
  conv=>whnf
  refine⟨?_,fun i=>?_⟩
  · conv => whnf
    (repeat' first|exact True.intro|rfl|apply And.intro )
  conv=>whnf
  repeat' ((first|refine Rq.mk (by(first|rfl|((try simp only[rz]);omega))) ?_|refine Br.split (fun h=>?_) (fun h=>?_)<;>(try simp only[bz] at h)<;>try (exfalso;omega)|refine Ok3.mk _ (zam (by omega)) ?_)<;>conv=>whnf)
  all_goals first|exact⟨_,rfl,by omega,by omega⟩|(refine⟨i+1,?_,rfl,?_⟩<;>first|((conv=>whnf);(repeat' first|exact True.intro|apply And.intro|exact congrArg (AV.int .i64) (by((try dsimp only);(rw[wr64 (by omega) (by omega)];omega)))|rfl);done)|omega )|skip
  refine zai eRg zae [0,2,5,46,47] [] 0 (fun x:En f.roles=>[(48,i64 x.i),(3,i64 (wid (f.roles.take x.i))),(4,i64 x.k)]) (fun _=>[]) [] (fun x=>f.roles.length+1 - x.i) (⟨0,0,by omega,by omega⟩) ?_
  conv=>whnf
  refine⟨?_,fun x=>?_⟩
  · conv => whnf
    (repeat' first|exact True.intro|rfl|apply And.intro )
  obtain⟨i,k,hi,hk⟩:=x
  conv=>whnf
  repeat' ((first|refine Rq.mk (by(first|rfl|((try simp only[rz]);omega))) ?_|refine Br.split (fun h=>?_) (fun h=>?_)<;>(try simp only[bz] at h)|(obtain⟨r,he,hrm,s1,s2,s3,s4,s5,s6,s7⟩:=zls (l:=f.roles) (i:=i) (by omega);refine Ok3.mk _ he ?_;clear he))<;>conv=>whnf)
  all_goals first|exact⟨_,rfl,by(omega ),by(first|omega|(dsimp only;omega))⟩|(refine⟨⟨i+1,k,by omega,by omega⟩,?_,rfl,?_⟩<;>first|((conv=>whnf);(repeat' first|exact True.intro|apply And.intro|exact congrArg (AV.int .i64) (by((try dsimp only);first|omega|(rw[wr64 (by omega) (by omega)];omega)))|rfl);done)|(dsimp only;omega))|(refine⟨⟨i+1,k+1,by omega,by omega⟩,?_,rfl,?_⟩<;>first|((conv=>whnf);(repeat' first|exact True.intro|apply And.intro|exact congrArg (AV.int .i64) (by((try dsimp only);(rw[wr64 (by omega) (by omega)];omega)))|rfl);done)|(dsimp only;omega))
end Go.Ago
namespace Go.Ago
open Go.Proofs
attribute [local irreducible] ltI leI eqI eqS shrI wr inB mmI comp DC DP DW DV
theorem zpt (p:Nat)(h:p<20):∃n:Int,zje zit (p * ti5.size) ti5.size=some [AV.int .u8 n]∧0≤n∧n<256:=by
 match p,h with
 | 0,_=>exact⟨_,rfl,by decide,by decide⟩
 | 1,_=>exact⟨_,rfl,by decide,by decide⟩
 | 2,_=>exact⟨_,rfl,by decide,by decide⟩
 | 3,_=>exact⟨_,rfl,by decide,by decide⟩
 | 4,_=>exact⟨_,rfl,by decide,by decide⟩
 | 5,_=>exact⟨_,rfl,by decide,by decide⟩
 | 6,_=>exact⟨_,rfl,by decide,by decide⟩
 | 7,_=>exact⟨_,rfl,by decide,by decide⟩
 | 8,_=>exact⟨_,rfl,by decide,by decide⟩
 | 9,_=>exact⟨_,rfl,by decide,by decide⟩
 | 10,_=>exact⟨_,rfl,by decide,by decide⟩
 | 11,_=>exact⟨_,rfl,by decide,by decide⟩
 | 12,_=>exact⟨_,rfl,by decide,by decide⟩
 | 13,_=>exact⟨_,rfl,by decide,by decide⟩
 | 14,_=>exact⟨_,rfl,by decide,by decide⟩
 | 15,_=>exact⟨_,rfl,by decide,by decide⟩
 | 16,_=>exact⟨_,rfl,by decide,by decide⟩
 | 17,_=>exact⟨_,rfl,by decide,by decide⟩
 | 18,_=>exact⟨_,rfl,by decide,by decide⟩
 | 19,_=>exact⟨_,rfl,by decide,by decide⟩
 | n+20,h=>exact absurd h (by omega)
theorem zl3 {p:Nat}{f:List AV→Prop}(h:p<20)(k:∀n:Int,0≤n→n<256→f [AV.int .u8 n]):Ok3 (zje zit (p * ti5.size) ti5.size) f:=by
 obtain⟨n,e,h0,h1⟩:=zpt p h;exact Ok3.mk _ e (k n h0 h1)
theorem zo6 (d:Int)(m:Bool):DPR 325 [i64 d,.bool m] (fun ae=>∃(c:Int) (b:Bool),ae = .ret (.tup [.int .u8 c,.bool b])):=by
 refine zaf eRg zae Tryz.func325 rfl (by decide) rfl rfl ?_
 conv=>whnf
 repeat' ((first|refine Rq.mk (by(first|rfl|((try simp only[rz]);(first|omega|(rw[wr64 (by omega) (by omega)];omega))))) ?_|refine Br.split (fun h=>?_) (fun h=>?_)<;>(try simp only[bz] at h)|refine zag (fun h=>?_) (fun h=>?_)<;>(try simp only[bz] at h)|refine zl3 (by(first|omega|(rw[wr64 (by omega) (by omega)];omega))) (fun m hm0 hm1=>?_))<;>conv=>whnf)
 all_goals exact⟨_,_,rfl⟩
theorem zp5 (c:Int):DPR 284 [.int .u8 c] (fun ae=>∃(n:Int) (x y:Bool),ae = .ret (.tup [i64 n,.bool x,.bool y])∧0≤n∧n≤9):=by
 refine zaf eRg zae Tryz.func284 rfl (by decide) rfl rfl ?_
 conv=>whnf
 refine zai eRg zae [0,2,3,4,7] [] 0 (fun i:Nat=>[(8,i64 i)]) (fun _=>[]) [] (fun i=>21 - i) (0) ?_
 conv=>whnf
 refine⟨?_,fun i=>?_⟩
 · conv => whnf
   (repeat' first|exact True.intro|rfl|apply And.intro )
 conv=>whnf
 repeat' ((first|refine Rq.mk (by(first|rfl|((try simp only[rz]);omega))) ?_|refine Br.split (fun h=>?_) (fun h=>?_)<;>(try simp only[bz] at h)|refine zl3 (by omega) (fun m hm0 hm1=>?_))<;>conv=>whnf)
 all_goals first|exact⟨_,_,_,rfl,by decide,by decide⟩|exact⟨_,_,_,rfl,by rw[Int.tmod_eq_emod_of_nonneg (by omega)];omega,by rw[Int.tmod_eq_emod_of_nonneg (by omega)];omega⟩|(refine⟨i+1,(by(conv=>whnf);(repeat' first|exact True.intro|rfl|apply And.intro|(refine cw ?_ ?_ ?_<;>(try dsimp only)<;>omega) )),rfl,(by(try simp only[List.length_map] at *)<;>omega)⟩)
end Go.Ago
