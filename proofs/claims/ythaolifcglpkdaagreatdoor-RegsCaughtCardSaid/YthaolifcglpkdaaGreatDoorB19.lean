/-
  Part B19: lemmas, each with its own conditions.
-/
import Derived.Test.YthaolifcglpkdaaGreatDoorB18
set_option maxRecDepth 100000
set_option maxHeartbeats 0
set_option linter.all false
namespace Go.Ago
open Go.Proofs List Nat Tryz
attribute [local irreducible] bA bw aV bp bG wr aZ bF comp DC DP DW DV DY
abbrev Xe (r:List UInt8):AV := .bm [.str r,.bool false,i64 r.length,i64 0,i64 0,.bool false,.ai,.int .u8 0,i64 0,.bool false,.int .u8 0,i64 0]
def N2 (a:AE):Prop:=a = .ret (.ao [.dI,.bool false])∨(∃r:List UInt8,r.length≤32∧a = .ret (.ao [Xe r,.bool true]))∨(∃f:Fo,a = .ret (.ao [f.av,.bool true])∧pw f)
theorem Df (s:List UInt8)(g:s.length<281474976710656):af 190 [.str s] N2:=by
 refine zw func190 ?_;refine zg ?_
 repeat' ((first|(refine zp ?_ ?_<;>intro h)|(refine DC.pure rfl (RS _ aa) ?_;rintro _ ⟨r,b,rfl,a⟩)|(refine DC.pure rfl (Ny _ _ (by have:=a bD;omega) ab (vV ab)) ?_;rintro _ rfl)|(refine DC.pure rfl (Ge _ _ (by have:=a bD;omega) ab (a bD).2.2 (vV ab)) ?_;rintro _ rfl)|(refine DC.pure rfl (Ww _ (a bD).1 (a bD).2.1 (a bD).2.2) ?_;rintro _ (rfl|⟨f,rfl,e,d⟩)))<;>refine zg ?_)
 all_goals first|exact .inl rfl|exact .inr (.inl ⟨_,(a bD).1,rfl⟩)|exact .inr (.inr ⟨_,rfl,e⟩)
theorem Rb (s:List UInt8)(p:s.length<281474976710656):af 242 [.str s] (fun m=>m = .ret (.ao [.dI,.bool false])∨(∃f:Fo,m = .ret (.ao [f.av,.bool true])∧pw f)):=by
 refine zw func242 ?_
 conv=>whnf
 repeat' (refine DC.pure rfl (Df _ p) ?_;rintro _ (rfl|⟨r,q,rfl⟩|⟨⟨l,e,i,a,d,b,h,g,first,c,n,j,t,u⟩,rfl,k⟩)<;>first|(obtain rfl:e=true:=k.num;conv=>whnf)|(conv=>whnf))
 all_goals first|exact .inl rfl|exact .inr ⟨_,rfl,k⟩
theorem Jz (s:List UInt8)(w:s.length<281474976710656):af 236 [.str s] (fun x=>∃(a:List UInt8) (b:Bool) (c d e:Int) (g:Bool) (n:Int),x = .ret (.ao [.agg [.str a,.bool b,i64 c,i64 d,i64 e,.bool g],i64 n])):=by
 refine zw func236 ?_
 conv=>whnf
 repeat' (refine DC.pure rfl (Df _ w) ?_;rintro _ (rfl|⟨r,y,rfl⟩|⟨⟨q,k,l,f,j,h,m,o,first,i,u,p,z,A⟩,rfl,v⟩)<;>first|(obtain rfl:k=true:=v.num;conv=>whnf)|(conv=>whnf))
 all_goals exact⟨_,_,_,_,_,_,_,rfl⟩
theorem Qe (s:List UInt8)(b:s.length<281474976710656):af 188 [.str s] (eS fun _=>True):=by
 refine zw func188 ?_;refine zg ?_
 repeat' ((refine DC.pure rfl (Jz _ b) ?_;rintro _ ⟨_,_,_,_,_,_,_,rfl⟩)<;>refine zg ?_)
 all_goals exact⟨_,rfl,trivial⟩
theorem Gt (n:Int):(Utf8.encode n).data.toList.length≤4:=by
 unfold Utf8.encode
 grind
abbrev yc (f:Fo)(b:List UInt8)(m:Bool)(u a c:Int):an := .arr 6 [[f.av,.str b,.bool m,i64 u,i64 a,i64 c]]
theorem W7 {f:Fo}{b:List UInt8}{m:Bool}{u d a c e:Int}(h:u=d)(g:a=c):yc f b m u a e=yc f b m d c e:=by grind
theorem yF {r:Int}(h:0≤r∧r≤5):(r=0∧Mk 0)∨(r=1∧Mk 1)∨(r=2∧Mk 2)∨(r=3∧Mk 3)∨(r=4∧Mk 4)∨(r=5∧Mk 5):=by
 have b:=Mk.mk 0;have c:=Mk.mk 1;have d:=Mk.mk 2;have e:=Mk.mk 3;have f:=Mk.mk 4;have a:=Mk.mk 5
 grind
theorem zc {l:List Int}{i:Nat}(h:i<l.length):∃r:Int,(l.map fun n=>[i64 n])[((i:Nat):Int).toNat]? = some [i64 r]∧r∈l∧wid (l.take (i+1))=wid (l.take i)+wid [r]∧bl (l.take (i+1))=bl (l.take i)+bl [r]∧bl (l.take (i+1))≤bl l∧wid (l.take (i+1))≤wid l:=by
 have b:l.take (i+1)=l.take i++[l[i]]:=ag;have c:∀r,wid (l.take i++[r])=wid (l.take i)+wid [r]:=fun r=>by rw[wid,zb5,zbk];rfl
 have a:∀r,bl (l.take i++[r])=bl (l.take i)+bl [r]:=fun r=>by rw[bl,zb5,zbk];rfl
 exact⟨l[i],ag,za9 h,by grind,by grind,((zc7 _ _).filter _).length_le,((zc7 _ _).filter _).length_le⟩
theorem Fg {l:List Int}{k n:Nat}{v:Int}(h:n=l.length):kH (List.take n (List.drop 0 ((l.map gC).set k [.int .u8 v])))=some [.str ((l.set k v).map fun n=>UInt8.ofNat n.toNat)]:=by
 have e:(l.map gC).set k [.int .u8 v]=(l.set k v).map gC:=ag;rw[e,h,vp ag];exact uf
theorem WT {l:List Int}{k:Int}(h:k.toNat<l.length):(l.map gC)[k.toNat]? = some (gC l[k.toNat]):=ag
theorem Js {y:Int}{acc:List Int}{k:Int}(h:k.toNat<(y::acc).length):(gC y::List.map gC acc)[0+k.toNat]? = some (gC ((y::acc)[k.toNat])):=by
 rw[zce];exact WT h
theorem Gm (l:List Int):bl l≤wid l:=by
 unfold bl wid
 induction l<;>grind
theorem Lb (f:Fo)(b:List UInt8)(m:Bool)(u a e c:Int):af 292 [JC f b m u a e,.int .u8 c] (fun g=>∃n:Int,g = .ret (.int .u8 n)):=by
 refine zw func292 ?_;refine zg ?_
 repeat' ((refine zp ?_ ?_<;>first|exact⟨⟩|intro h)<;>refine zg ?_)
 all_goals exact⟨_,rfl⟩
structure Wr (l:List Int) where
 i:Nat
 acc:List Int
 u:Int
 hi:i≤l.length
 ha:acc.length=wid (l.take i)
 hu:0≤u∧u≤bl (l.take i)
end Go.Ago
