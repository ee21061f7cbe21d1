/-
  Part B15: lemmas, each with its own conditions.
-/
import Derived.Test.YthaolifcglpkdaaGreatDoorB14
set_option maxRecDepth 100000
set_option maxHeartbeats 0
set_option linter.all false
namespace Go.Ago
open Go.Proofs List Nat Tryz
attribute [local irreducible] bA bw aV bp bG wr aZ bF comp DC DP DW DV DY
theorem Ow {s:List UInt8}{a b:Nat}(h:kB s):kB ((s.drop a).take b):=by
 intro j x c;rw[zcR] at *;split at *
 . rw[zcF] at *;exact h _ x c
 grind
theorem ZV {s t:List UInt8}(h:Lib.hasSuffix s t=true):t.length≤s.length:=(isSuffixOf_iff_suffix.1 h).length_le
structure Dr where
 d:Int
 f:Int
 i:Nat
 hi:i≤4
 hf : -1≤f∧f≤32
abbrev kK (s:List UInt8)(w d sc:Int)(b:AV)(dr fi:Int)(cr:Bool)(a:Int):an := .arr 12 [[.str s,.bool true,i64 w,i64 d,i64 sc,.bool false,b,.int .u8 dr,i64 fi,.bool cr,.int .u8 32,i64 a]]
theorem wZ (s:List UInt8)(c:Int)(h:s.length≤32) : -1≤fR s c∧fR s c≤32:=by
 unfold fR;rcases Cc s c.toNat.toUInt8 with⟨a,_⟩|⟨i,a,b,_⟩<;>grind
theorem Gp (s a:List UInt8)(cr:Bool)(k:a.length≤32):cM 280 [.ptr 3 0 0,.str a] (Tr.put 3 (some (kK s 0 0 0 .ai 0 0 cr 0)) .nil) 1000
 (fun ae H nx=>ae = .ret (.bool false)∨(∃d f:Int,ae = .ret (.bool true)∧H=Tr.put 3 (some (kK s 0 0 0 .ai d f cr 0)) .nil∧nx=3011)):=by
 refine zd func280 ?_
 conv=>whnf
 refine DW.aO aC aD [0,1,4] [3] 2000 (fun x:Dr=>[(14,.ak 1 [[AV.int .u8 36],[AV.int .u8 83],[AV.int .u8 43],[AV.int .u8 45]]),(15,i64 4),(16,i64 x.i)]) (fun x=>[(3,kK s 0 0 0 .ai x.d x.f cr 0)]) [] (fun x=>5 - x.i) (⟨0,-1,0,aa,aa⟩) ?_
 conv=>whnf
 refine⟨?_,fun x=>?_⟩
 . conv => whnf
   (exact iM)
 obtain⟨d,f,i,hi,l⟩:=x;rcases i with _|_|_|_|_|i
 rotate_right
 . exact absurd hi aa
 . have hp : 2 ≤ (Lib.countByte a (UInt8.ofNat (if Utf8.valid 36 = true then Int.toNat 36 else Utf8.runeError)) : Int)->0 ≤ fR a 36 ∧ fR a 36 ≤ Lib.lastIndexByte ⟨a.toArray⟩ 36 ∧ Lib.lastIndexByte ⟨a.toArray⟩ 36 < a.length := fun h => yg a 36 (by have h : 2 ≤ (Lib.countByte a 36 : Int) := h; omega)
   have e:=wZ a 36 k;have hwl:2≤(Lib.countByte a (UInt8.ofNat (if Utf8.valid 36=true then Int.toNat 36 else Utf8.runeError)):Int)->wr .i64 (Lib.lastIndexByte ⟨a.toArray⟩ 36+1)=Lib.lastIndexByte ⟨a.toArray⟩ 36+1:=fun h=>aE (by have:=hp h;omega) (by have:=hp h;omega)
   have g:(List.take ((Lib.lastIndexByte ⟨a.toArray⟩ 36+1).toNat - (fR a 36).toNat) (List.drop (fR a 36).toNat a)).length≤a.length:=by simp;omega
   refine zj ?_
   repeat' ((first|(refine Rq.mk zS ?_;rw[hwl bD])|(refine Rq.mk (by have:=hp bD;simp only[qM];omega) ?_)|refine zq ?_|(refine zp ?_ ?_<;>first|exact⟨⟩|intro h)|(refine DC.pure rfl (wH a _) ?_;rintro _ rfl)|(refine DC.pure rfl (kh _ _) ?_;rintro _ rfl)|(refine DC.pure rfl (xA a _ aa) ?_;rintro _ rfl)|(refine DC.pure rfl (pN _ _) ?_;rintro _ rfl)|refine zo ?_)<;>refine zj ?_)
   all_goals first|exact .inl rfl|(refine⟨⟨d,f,1,aa,l⟩,?_,rfl,?_⟩<;>((conv=>whnf);(exact iM);done))|skip
   refine DW.aO aC aD [0,1,4,6,7,14,15,16,17,18,19,20,21,22,23,24,25,26,27,28,29,30,31,32,33,34,35,36,37,38,39,40,41,42,43,44,45,46,47,48,49,50,51,52,53,54,55,56,57,58,59] [] 0 (fun j:Nat=>[(60,i64 j)]) (fun _=>[]) [] (fun j=>a.length+1 - j) (0) ?_
   conv=>whnf
   refine⟨?_,fun j=>?_⟩
   . conv => whnf
     (exact iM)
   refine zg ?_
   repeat' ((first|(refine zp ?_ ?_<;>intro h)|(refine DC.pure rfl (kh _ _) ?_;rintro _ rfl))<;>refine zg ?_)
   all_goals first|exact .inl rfl|(refine⟨⟨36,fR a 36,1,aa,e⟩,?_,rfl,?_⟩<;>((conv=>whnf);(exact iM);done))|(refine⟨j+1,?_,rfl,?_⟩<;>first|((conv=>whnf);(exact iM);done)|omega)
 . have hp : 2 ≤ (Lib.countByte a (UInt8.ofNat (if Utf8.valid 83 = true then Int.toNat 83 else Utf8.runeError)) : Int)->0 ≤ fR a 83 ∧ fR a 83 ≤ Lib.lastIndexByte ⟨a.toArray⟩ 83 ∧ Lib.lastIndexByte ⟨a.toArray⟩ 83 < a.length := fun h => yg a 83 (by have h : 2 ≤ (Lib.countByte a 83 : Int) := h; omega)
   have e:=wZ a 83 k;have hwl:2≤(Lib.countByte a (UInt8.ofNat (if Utf8.valid 83=true then Int.toNat 83 else Utf8.runeError)):Int)->wr .i64 (Lib.lastIndexByte ⟨a.toArray⟩ 83+1)=Lib.lastIndexByte ⟨a.toArray⟩ 83+1:=fun h=>aE (by have:=hp h;omega) (by have:=hp h;omega)
   have g:(List.take ((Lib.lastIndexByte ⟨a.toArray⟩ 83+1).toNat - (fR a 83).toNat) (List.drop (fR a 83).toNat a)).length≤a.length:=by simp;omega
   refine zj ?_
   repeat' ((first|(refine Rq.mk zS ?_;rw[hwl bD])|(refine Rq.mk (by have:=hp bD;simp only[qM];omega) ?_)|refine zq ?_|(refine zp ?_ ?_<;>first|exact⟨⟩|intro h)|(refine DC.pure rfl (wH a _) ?_;rintro _ rfl)|(refine DC.pure rfl (kh _ _) ?_;rintro _ rfl)|(refine DC.pure rfl (xA a _ aa) ?_;rintro _ rfl)|(refine DC.pure rfl (pN _ _) ?_;rintro _ rfl)|refine zo ?_)<;>refine zj ?_)
   all_goals first|exact .inl rfl|(refine⟨⟨d,f,2,aa,l⟩,?_,rfl,?_⟩<;>((conv=>whnf);(exact iM);done))|skip
   refine DW.aO aC aD [0,1,4,6,7,14,15,16,17,18,19,20,21,22,23,24,25,26,27,28,29,30,31,32,33,34,35,36,37,38,39,40,41,42,43,44,45,46,47,48,49,50,51,52,53,54,55,56,57,58,59] [] 0 (fun j:Nat=>[(60,i64 j)]) (fun _=>[]) [] (fun j=>a.length+1 - j) (0) ?_
   conv=>whnf
   refine⟨?_,fun j=>?_⟩
   . conv => whnf
     (exact iM)
   refine zg ?_
   repeat' ((first|(refine zp ?_ ?_<;>intro h)|(refine DC.pure rfl (kh _ _) ?_;rintro _ rfl))<;>refine zg ?_)
   all_goals first|exact .inl rfl|(refine⟨⟨83,fR a 83,2,aa,e⟩,?_,rfl,?_⟩<;>((conv=>whnf);(exact iM);done))|(refine⟨j+1,?_,rfl,?_⟩<;>first|((conv=>whnf);(exact iM);done)|omega)
 . have hp : 2 ≤ (Lib.countByte a (UInt8.ofNat (if Utf8.valid 43 = true then Int.toNat 43 else Utf8.runeError)) : Int)->0 ≤ fR a 43 ∧ fR a 43 ≤ Lib.lastIndexByte ⟨a.toArray⟩ 43 ∧ Lib.lastIndexByte ⟨a.toArray⟩ 43 < a.length := fun h => yg a 43 (by have h : 2 ≤ (Lib.countByte a 43 : Int) := h; omega)
   have e:=wZ a 43 k;have hwl:2≤(Lib.countByte a (UInt8.ofNat (if Utf8.valid 43=true then Int.toNat 43 else Utf8.runeError)):Int)->wr .i64 (Lib.lastIndexByte ⟨a.toArray⟩ 43+1)=Lib.lastIndexByte ⟨a.toArray⟩ 43+1:=fun h=>aE (by have:=hp h;omega) (by have:=hp h;omega)
   have g:(List.take ((Lib.lastIndexByte ⟨a.toArray⟩ 43+1).toNat - (fR a 43).toNat) (List.drop (fR a 43).toNat a)).length≤a.length:=by simp;omega
   refine zj ?_
   repeat' ((first|(refine Rq.mk zS ?_;rw[hwl bD])|(refine Rq.mk (by have:=hp bD;simp only[qM];omega) ?_)|refine zq ?_|(refine zp ?_ ?_<;>first|exact⟨⟩|intro h)|(refine DC.pure rfl (wH a _) ?_;rintro _ rfl)|(refine DC.pure rfl (kh _ _) ?_;rintro _ rfl)|(refine DC.pure rfl (xA a _ aa) ?_;rintro _ rfl)|(refine DC.pure rfl (pN _ _) ?_;rintro _ rfl)|refine zo ?_)<;>refine zj ?_)
   all_goals first|exact .inl rfl|(refine⟨⟨d,f,3,aa,l⟩,?_,rfl,?_⟩<;>((conv=>whnf);(exact iM);done))|skip
   refine DW.aO aC aD [0,1,4,6,7,14,15,16,17,18,19,20,21,22,23,24,25,26,27,28,29,30,31,32,33,34,35,36,37,38,39,40,41,42,43,44,45,46,47,48,49,50,51,52,53,54,55,56,57,58,59] [] 0 (fun j:Nat=>[(60,i64 j)]) (fun _=>[]) [] (fun j=>a.length+1 - j) (0) ?_
   conv=>whnf
   refine⟨?_,fun j=>?_⟩
   . conv => whnf
     (exact iM)
   refine zg ?_
   repeat' ((first|(refine zp ?_ ?_<;>intro h)|(refine DC.pure rfl (kh _ _) ?_;rintro _ rfl))<;>refine zg ?_)
   all_goals first|exact .inl rfl|(refine⟨⟨43,fR a 43,3,aa,e⟩,?_,rfl,?_⟩<;>((conv=>whnf);(exact iM);done))|(refine⟨j+1,?_,rfl,?_⟩<;>first|((conv=>whnf);(exact iM);done)|omega)
 . have hp : 2 ≤ (Lib.countByte a (UInt8.ofNat (if Utf8.valid 45 = true then Int.toNat 45 else Utf8.runeError)) : Int)->0 ≤ fR a 45 ∧ fR a 45 ≤ Lib.lastIndexByte ⟨a.toArray⟩ 45 ∧ Lib.lastIndexByte ⟨a.toArray⟩ 45 < a.length := fun h => yg a 45 (by have h : 2 ≤ (Lib.countByte a 45 : Int) := h; omega)
   have e:=wZ a 45 k;have hwl:2≤(Lib.countByte a (UInt8.ofNat (if Utf8.valid 45=true then Int.toNat 45 else Utf8.runeError)):Int)->wr .i64 (Lib.lastIndexByte ⟨a.toArray⟩ 45+1)=Lib.lastIndexByte ⟨a.toArray⟩ 45+1:=fun h=>aE (by have:=hp h;omega) (by have:=hp h;omega)
   have g:(List.take ((Lib.lastIndexByte ⟨a.toArray⟩ 45+1).toNat - (fR a 45).toNat) (List.drop (fR a 45).toNat a)).length≤a.length:=by simp;omega
   refine zj ?_
   repeat' ((first|(refine Rq.mk zS ?_;rw[hwl bD])|(refine Rq.mk (by have:=hp bD;simp only[qM];omega) ?_)|refine zq ?_|(refine zp ?_ ?_<;>first|exact⟨⟩|intro h)|(refine DC.pure rfl (wH a _) ?_;rintro _ rfl)|(refine DC.pure rfl (kh _ _) ?_;rintro _ rfl)|(refine DC.pure rfl (xA a _ aa) ?_;rintro _ rfl)|(refine DC.pure rfl (pN _ _) ?_;rintro _ rfl)|refine zo ?_)<;>refine zj ?_)
   all_goals first|exact .inl rfl|(refine⟨⟨d,f,4,aa,l⟩,?_,rfl,?_⟩<;>((conv=>whnf);(exact iM);done))|skip
   refine DW.aO aC aD [0,1,4,6,7,14,15,16,17,18,19,20,21,22,23,24,25,26,27,28,29,30,31,32,33,34,35,36,37,38,39,40,41,42,43,44,45,46,47,48,49,50,51,52,53,54,55,56,57,58,59] [] 0 (fun j:Nat=>[(60,i64 j)]) (fun _=>[]) [] (fun j=>a.length+1 - j) (0) ?_
   conv=>whnf
   refine⟨?_,fun j=>?_⟩
   . conv => whnf
     (exact iM)
   refine zg ?_
   repeat' ((first|(refine zp ?_ ?_<;>intro h)|(refine DC.pure rfl (kh _ _) ?_;rintro _ rfl))<;>refine zg ?_)
   all_goals first|exact .inl rfl|(refine⟨⟨45,fR a 45,4,aa,e⟩,?_,rfl,?_⟩<;>((conv=>whnf);(exact iM);done))|(refine⟨j+1,?_,rfl,?_⟩<;>first|((conv=>whnf);(exact iM);done)|omega)
 . refine zg ?_
   repeat' ((refine zp ?_ ?_<;>first|exact⟨⟩|intro h)<;>refine zg ?_)
   all_goals exact .inr ⟨d,f,rfl,rfl,rfl⟩
end Go.Ago
namespace Go.Ago
open Go.Proofs List Nat Tryz
def ln:AV := .agg [.ak 7 [[.str [77,65,73,78],i64 (-1),i64 0,i64 16,.ai,.ai,.ai]],i64 0,.ai,.ak 2 [[.str [83,89,83,80,82,73,78,84],i64 2]],.ai,.ai,.ak 2 [[i64 4,.ak 29 [[i64 1,i64 (-1),i64 (-1),i64 (-1),i64 0,i64 0,i64 0,.bool false,.str [],i64 0,i64 0,i64 0,.bool false,.str [],i64 0,i64 0,i64 0,.bool false,.str [],i64 10,i64 0,i64 0,i64 0,.str [],.ai,.ai,.ai,.bool false,.bool false],[i64 2,i64 0,i64 (-1),i64 (-1),i64 2,i64 15,i64 0,.bool false,.str [],i64 0,i64 0,i64 0,.bool false,.str [],i64 0,i64 0,i64 0,.bool false,.str [],i64 0,i64 0,i64 0,i64 7,.str [],.ai,.ai,.ai,.bool false,.bool false],[i64 4,i64 1,i64 (-1),i64 (-1),i64 0,i64 0,i64 0,.bool false,.str [],i64 0,i64 0,i64 0,.bool false,.str [],i64 0,i64 0,i64 0,.bool false,.str [],i64 1,i64 0,i64 0,i64 0,.str [],.ai,.ai,.ai,.bool false,.bool false],[i64 9,i64 (-1),i64 1,i64 0,i64 2,i64 15,i64 0,.bool false,.str [],i64 0,i64 0,i64 0,.bool false,.str [],i64 0,i64 0,i64 0,.bool false,.str [],i64 0,i64 0,i64 0,i64 0,.str [],.ai,.ai,.ai,.bool false,.bool false],[i64 1,i64 (-1),i64 (-1),i64 (-1),i64 0,i64 0,i64 0,.bool false,.str [],i64 0,i64 0,i64 0,.bool false,.str [],i64 0,i64 0,i64 0,.bool false,.str [],i64 20,i64 0,i64 0,i64 0,.str [],.ai,.ai,.ai,.bool false,.bool false],[i64 8,i64 0,i64 1,i64 (-1),i64 2,i64 15,i64 0,.bool false,.str [],i64 0,i64 0,i64 0,.bool false,.str [],i64 0,i64 0,i64 0,.bool false,.str [],i64 0,i64 0,i64 0,i64 0,.str [],.ai,.ai,.ai,.bool false,.bool false],[i64 27,i64 (-1),i64 (-1),i64 (-1),i64 0,i64 0,i64 0,.bool false,.str [],i64 0,i64 0,i64 0,.bool false,.str [],i64 0,i64 0,i64 0,.bool false,.str [],i64 0,i64 0,i64 0,i64 0,.str [],.ai,.ak 1 [[i64 0]],.ak 5 [[i64 2,i64 15,i64 0,.bool false,.str []]],.bool false,.bool false]]]]]
theorem FM:af 14 [ln] (· = .ret (i64 0)):=uO (T:=[]) (n:=40) (fun _ h=>by cases h) aG
def DR:AV := .agg [.ak 7 [[.str [77,65,73,78],i64 (-1),i64 0,i64 16,.ai,.ai,.ai]],i64 0,.ai,.ak 2 [[.str [83,89,83,80,82,73,78,84],i64 2]],.ai,.ai,.ak 2 [[i64 7,.ak 29 [[i64 1,i64 (-1),i64 (-1),i64 (-1),i64 0,i64 0,i64 0,.bool false,.str [],i64 0,i64 0,i64 0,.bool false,.str [],i64 0,i64 0,i64 0,.bool false,.str [],i64 10,i64 0,i64 0,i64 0,.str [],.ai,.ai,.ai,.bool false,.bool false],[i64 2,i64 4,i64 (-1),i64 (-1),i64 2,i64 15,i64 0,.bool false,.str [],i64 0,i64 0,i64 0,.bool false,.str [],i64 0,i64 0,i64 0,.bool false,.str [],i64 0,i64 0,i64 0,i64 7,.str [],.ai,.ai,.ai,.bool false,.bool false],[i64 4,i64 2,i64 (-1),i64 (-1),i64 0,i64 0,i64 0,.bool false,.str [],i64 0,i64 0,i64 0,.bool false,.str [],i64 0,i64 0,i64 0,.bool false,.str [],i64 1,i64 0,i64 0,i64 0,.str [],.ai,.ai,.ai,.bool false,.bool false],[i64 3,i64 5,i64 2,i64 (-1),i64 0,i64 0,i64 0,.bool false,.str [],i64 0,i64 0,i64 0,.bool false,.str [],i64 0,i64 0,i64 0,.bool false,.str [],i64 0,i64 0,i64 0,i64 0,.str [],.ai,.ai,.ai,.bool false,.bool false],[i64 3,i64 0,i64 5,i64 (-1),i64 0,i64 0,i64 0,.bool false,.str [],i64 0,i64 0,i64 0,.bool false,.str [],i64 0,i64 0,i64 0,.bool false,.str [],i64 0,i64 0,i64 0,i64 0,.str [],.ai,.ai,.ai,.bool false,.bool false],[i64 9,i64 (-1),i64 0,i64 4,i64 2,i64 15,i64 0,.bool false,.str [],i64 0,i64 0,i64 0,.bool false,.str [],i64 0,i64 0,i64 0,.bool false,.str [],i64 0,i64 0,i64 0,i64 0,.str [],.ai,.ai,.ai,.bool false,.bool false],[i64 1,i64 (-1),i64 (-1),i64 (-1),i64 0,i64 0,i64 0,.bool false,.str [],i64 0,i64 0,i64 0,.bool false,.str [],i64 0,i64 0,i64 0,.bool false,.str [],i64 20,i64 0,i64 0,i64 0,.str [],.ai,.ai,.ai,.bool false,.bool false],[i64 3,i64 0,i64 5,i64 (-1),i64 0,i64 0,i64 0,.bool false,.str [],i64 0,i64 0,i64 0,.bool false,.str [],i64 0,i64 0,i64 0,.bool false,.str [],i64 0,i64 0,i64 0,i64 0,.str [],.ai,.ai,.ai,.bool false,.bool false],[i64 8,i64 6,i64 0,i64 (-1),i64 2,i64 15,i64 0,.bool false,.str [],i64 0,i64 0,i64 0,.bool false,.str [],i64 0,i64 0,i64 0,.bool false,.str [],i64 0,i64 0,i64 0,i64 0,.str [],.ai,.ai,.ai,.bool false,.bool false],[i64 27,i64 (-1),i64 (-1),i64 (-1),i64 0,i64 0,i64 0,.bool false,.str [],i64 0,i64 0,i64 0,.bool false,.str [],i64 0,i64 0,i64 0,.bool false,.str [],i64 0,i64 0,i64 0,i64 0,.str [],.ai,.ak 1 [[i64 6]],.ak 5 [[i64 2,i64 15,i64 0,.bool false,.str []]],.bool false,.bool false]]]]]
theorem Qi:af 14 [DR] (· = .ret (i64 0)):=uO (T:=[]) (n:=40) (fun _ h=>by cases h) aG
end Go.Ago
