/-
  Part 24: lemmas, each with its own conditions.
-/
import Derived.Test.YthaolifcglpkdaaGreatDoorA23
set_option maxRecDepth 100000
set_option maxHeartbeats 0
set_option linter.all false
namespace Go.Ago
open Go.Proofs
attribute [local irreducible] ltI leI eqI eqS shrI wr inB mmI comp DC DP DW DV DY
theorem ybd (n:Int):(Utf8.encode n).data.toList.length≤4:=by
 unfold Utf8.encode;dsimp only
 generalize (if Utf8.valid n then n.toNat else Utf8.runeError)=c
 by_cases h1:c<0x80
 · rw[if_pos h1];simp
 · rw [if_neg h1]
   by_cases h2:c<0x800
   · rw[if_pos h2];simp
   · rw [if_neg h2]
     by_cases h3:c<0x10000
     · rw[if_pos h3];simp
     · rw[if_neg h3];simp
abbrev penO (f:Fo)(num:List UInt8)(m:Bool)(u a ld:Int):AObj := .arr 6 [[f.av,.str num,.bool m,i64 u,i64 a,i64 ld]]
theorem zgb {f:Fo}{num:List UInt8}{m:Bool}{u u' a a' ld:Int}(h1:u=u')(h2:a=a'):penO f num m u a ld=penO f num m u' a' ld:=by subst h1;subst h2;rfl
theorem ydy {r:Int}(h:0≤r∧r≤5):(r=0∧Mk 0)∨(r=1∧Mk 1)∨(r=2∧Mk 2)∨(r=3∧Mk 3)∨(r=4∧Mk 4)∨(r=5∧Mk 5):=by
 have m0:=Mk.mk 0;have m1:=Mk.mk 1;have m2:=Mk.mk 2;have m3:=Mk.mk 3;have m4:=Mk.mk 4;have m5:=Mk.mk 5;have h:r=0∨r=1∨r=2∨r=3∨r=4∨r=5:=by omega
 rcases h with h|h|h|h|h|h<;>simp[h, *]
theorem zg7 {l:List Int}{i:Nat}(h:i<l.length):∃r:Int,(l.map fun n=>[i64 n])[((i:Nat):Int).toNat]? = some [i64 r]∧r∈l∧wid (l.take (i+1))=wid (l.take i)+wid [r]∧dig (l.take (i+1))=dig (l.take i)+dig [r]∧dig (l.take (i+1))≤dig l∧wid (l.take (i+1))≤wid l:=by
 have ht:l.take (i+1)=l.take i++[l[i]]:=by simp
 have hw:∀r,wid (l.take i++[r])=wid (l.take i)+wid [r]:=fun r=>by rw[wid,List.filter_append,List.length_append];rfl
 have hd:∀r,dig (l.take i++[r])=dig (l.take i)+dig [r]:=fun r=>by rw[dig,List.filter_append,List.length_append];rfl
 exact⟨l[i],by simp[h],List.getElem_mem h,by rw[ht,hw],by rw[ht,hd],((List.take_sublist _ _).filter _).length_le,((List.take_sublist _ _).filter _).length_le⟩
theorem zm0 {l:List Int}{k n:Nat}{v:Int}(h:n=l.length):zgd (List.take n (List.drop 0 ((l.map brow).set k [.int .u8 v])))=some [.str ((l.set k v).map fun n=>UInt8.ofNat n.toNat)]:=by
 have e:(l.map brow).set k [.int .u8 v]=(l.set k v).map brow:=by rw[List.map_set]
 rw[e,h,zgk (by simp)]
 exact zes
theorem yd6 {l:List Int}{k:Int}(h:k.toNat<l.length):(l.map brow)[k.toNat]? = some (brow l[k.toNat]):=by simp[h]
theorem zva {y:Int}{acc:List Int}{k:Int}(h:k.toNat<(y::acc).length):(brow y::List.map brow acc)[0+k.toNat]? = some (brow ((y::acc)[k.toNat])):=by
 rw[Nat.zero_add];exact yd6 (l:=y::acc) h
theorem ybf (l:List Int):dig l≤wid l:=by
 unfold dig wid
 induction l with
 | nil=>simp
 | cons r l ih =>
   simp only[List.filter_cons]
   by_cases h2:r=2
   · subst h2;simpa using ih
   · have e : (!(r == 2)) = true := by simp [h2]
     rw[if_pos e];split
     · simp only[List.length_cons];omega
     · simp only[List.length_cons];omega
theorem zuh (f:Fo)(num:List UInt8)(m:Bool)(u a ld c:Int):DPR 292 [ynk f num m u a ld,.int .u8 c] (fun ae=>∃n:Int,ae = .ret (.int .u8 n)):=by
 refine zaf eRg zae Tryz.func292 rfl (by decide) rfl rfl ?_
 conv=>whnf
 repeat' ((first|refine Br.split (fun h=>?_) (fun h=>?_)<;>(try simp only[bz] at h)<;>try (exfalso;omega)|refine zag (fun h=>?_) (fun h=>?_)<;>(try simp only[bz] at h))<;>conv=>whnf)
 all_goals exact⟨_,rfl⟩
structure Wr (l:List Int) where
 i:Nat
 acc:List Int
 u:Int
 hi:i≤l.length
 ha:acc.length=wid (l.take i)
 hu:0≤u∧u≤dig (l.take i)
end Go.Ago
