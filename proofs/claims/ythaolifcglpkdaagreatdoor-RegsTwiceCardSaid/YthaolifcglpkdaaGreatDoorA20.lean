/-
  Part A20: lemmas, each with its own conditions.
-/
import Derived.Shelf.Strings.SlTrimAscii
import Derived.Test.YthaolifcglpkdaaGreatDoorA19
set_option maxRecDepth 100000
set_option maxHeartbeats 0
set_option linter.all false
section
namespace Go.Proofs
open List Nat
open Go.Shelf
def Tryz.Ut:Go.Shelf.Ren:=⟨fun|160=>239|232=>272|231=>271|227=>273|234=>275|233=>274|236=>277|235=>276|228=>303|271=>306|151=>305|197=>304|120=>330|152=>307|260=>329|137=>302|119=>331|224=>267|225=>266|217=>265|266=>300|n=>n,fun|9=>9|4=>4|3=>3|5=>5|117=>320|116=>319|0=>0|124=>323|21=>21|105=>344|46=>169|119=>377|139=>380|138=>379|n=>n,fun|3=>6|4=>7|n=>n⟩
theorem Tryz.Us:Go.Proofs.Lays.n160 prog Tryz.Ut:={
 mixed:=by kernel_rfl
 f119:=func331.trans (congrArg some (by kernel_rfl))
 f120:=func330.trans (congrArg some (by kernel_rfl))
 f137:=func302.trans (congrArg some (by kernel_rfl))
 f151:=func305.trans (congrArg some (by kernel_rfl))
 f152:=func307.trans (congrArg some (by kernel_rfl))
 f160:=func239.trans (congrArg some (by kernel_rfl))
 f197:=func304.trans (congrArg some (by kernel_rfl))
 f217:=func265.trans (congrArg some (by kernel_rfl))
 f224:=func267.trans (congrArg some (by kernel_rfl))
 f225:=func266.trans (congrArg some (by kernel_rfl))
 f227:=func273.trans (congrArg some (by kernel_rfl))
 f228:=func303.trans (congrArg some (by kernel_rfl))
 f231:=func271.trans (congrArg some (by kernel_rfl))
 f232:=func272.trans (congrArg some (by kernel_rfl))
 f233:=func274.trans (congrArg some (by kernel_rfl))
 f234:=func275.trans (congrArg some (by kernel_rfl))
 f235:=func276.trans (congrArg some (by kernel_rfl))
 f236:=func277.trans (congrArg some (by kernel_rfl))
 f260:=func329.trans (congrArg some (by kernel_rfl))
 f266:=func300.trans (congrArg some (by kernel_rfl))
 f271:=func306.trans (congrArg some (by kernel_rfl))
 t0:=underlying0
 a0:=isAgg0
 z0:=sizeOf0
 v0:=zeroValue0
 t3:=underlying3
 a3:=isAgg3
 z3:=sizeOf3
 v3:=zeroValue3
 t4:=underlying4
 a4:=isAgg4
 z4:=sizeOf4
 v4:=zeroValue4
 t5:=underlying5
 a5:=isAgg5
 z5:=sizeOf5
 v5:=zeroValue5
 t9:=underlying9
 a9:=isAgg9
 z9:=sizeOf9
 v9:=zeroValue9
 t21:=underlying21
 a21:=isAgg21
 z21:=sizeOf21
 v21:=zeroValue21
 t46:=underlying169
 a46:=isAgg169
 z46:=sizeOf169
 v46:=zeroValue169
 t105:=underlying344
 a105:=isAgg344
 z105:=sizeOf344
 v105:=zeroValue344
 t116:=underlying319
 a116:=isAgg319
 z116:=sizeOf319
 t117:=underlying320
 a117:=isAgg320
 z117:=sizeOf320
 v117:=zeroValue320
 t119:=underlying377
 a119:=isAgg377
 z119:=sizeOf377
 t124:=underlying323
 a124:=isAgg323
 z124:=sizeOf323
 v124:=zeroValue323
 t138:=underlying379
 a138:=isAgg379
 z138:=sizeOf379
 v138:=zeroValue379
 t139:=underlying380
 a139:=isAgg380
 z139:=sizeOf380
 v139:=zeroValue380
 g3:=by kernel_rfl
 g4:=by kernel_rfl }
end Go.Proofs
namespace Go.Ago
open Go.Proofs Go.Shelf List Nat Tryz
theorem vN {l:List UInt8}(h:l.all (fun b=>decide (b.toNat<128))=true):kr l:=
 fun _ b a=>of_decide_eq_true (all_eq_true.1 h b (mem_of_getElem? a))
theorem M9 (s t:List UInt8)(l:s.length<281474976710656)(g:t.length<4294967281)(d:kr t):af 239 [.str s,.str t] (fun f=>f = .ret (.str (Lib.trimS s t))):=by
 refine⟨.ret (.str (Lib.trimS s t)),PC.xG ⟨_,func239,rfl,ab⟩ fun o w m n i=>?_,rfl⟩
 obtain⟨v,u,rfl,h,j⟩:=qC i;cases h;cases j;refine(Any.strings_Trim_laid Tryz.Us aG ⟨s.toArray⟩ ⟨t.toArray⟩ w (by simp only[ByteArray.size,size_toArray];omega) (by simpa[ByteArray.size] using g) (by simpa[kr] using d)).mono ?_
 rintro e p ⟨rfl,c⟩
 exact⟨c,.ret _,.str _,rfl,rfl⟩
theorem BV:∀(l:List UInt8) (c:UInt8),(Lib.indexByte l c = -1∧c∉l)∨∃i:Nat,Lib.indexByte l c=i∧l[i]? = some c∧∀j,j<i->l[j]?≠some c
 | [],c => .inl ⟨rfl,ag⟩
 | b :: l, c => by
   unfold Lib.indexByte
   by_cases f:b=c
   . subst f;exact .inr ⟨0,ag,rfl,fun j k=>absurd k (not_lt_zero _)⟩
   . have d : (b == c) = false := by simpa using f
     rcases BV l c with⟨g,h⟩|⟨i,g,h,o⟩
     . exact .inl ⟨by simp[d,g],by simp[Ne.symm f,h]⟩
     . refine .inr ⟨i + 1, ?_, by simpa using h, fun j k => ?_⟩
       . have p : ((i : Int) == -1) = false := ag
         rw[g,d,p];simp
       . cases j with
         | zero=>simpa using f
         | succ j=>simpa using o j aa
theorem xX (s:List UInt8)(c:UInt8)(h:1≤Lib.countByte s c):0≤Lib.indexByte s c∧Lib.indexByte s c≤Lib.lastIndexByte ⟨s.toArray⟩ c.toNat∧Lib.lastIndexByte ⟨s.toArray⟩ c.toNat<s.length:=by
 have g:c∈s:=by
  by_cases f:c∈s
  . exact f
  . have : s.count c = 0 := count_eq_zero.2 f
    unfold Lib.countByte at h;omega
 rcases BV s c with⟨_,b⟩|⟨i,m,b,n⟩
 . exact absurd g b
 have j:i<s.length:=(List.getElem?_eq_some_iff.1 b).1;rcases Lib.lastIdx_spec ⟨s.toArray⟩ c.toNat s.length with⟨_,d⟩|⟨k,o,d,p,l⟩
 . exact absurd (by simp[b]) (d i j)
 . have e : Lib.lastIndexByte ⟨s.toArray⟩ c.toNat = k := by rw [<-d]; simp [Lib.lastIndexByte, ByteArray.size]
   grind
end Go.Ago
end
namespace Go.Ago
open Go.Proofs List Nat Tryz
attribute [local irreducible] bN bM aZ bK b_ wr bp bL comp DC DP DW DV DY
structure Fo where
 spec:List UInt8
 num:Bool
 width:Int
 digits:Int
 scale:Int
 signed:Bool
 cz:List Int
 QK:Int
 first:Int
 Qv:Bool
 fill:Int
 Rv:Int
 hs:spec.length≤32
 hr:cz.length≤40
abbrev Fo.cells (f:Fo):List AV:=[.str f.spec,.bool f.num,i64 f.width,i64 f.digits,i64 f.scale,.bool f.signed,aU f.cz,.int .u8 f.QK,i64 f.first,.bool f.Qv,.int .u8 f.fill,i64 f.Rv]
abbrev Fo.av (f:Fo):AV := .bq f.cells
theorem Xw (f:Fo)(c:Int)(a:Int):af 312 [f.av,.int .u8 c,i64 a] (fun d=>∃n:Int,d = .ret (.int .i64 n)∧0≤n∧n≤5):=by
 have k1:=@kd;exact zw func312 W
theorem Lm (f:Fo)(a:BL UInt8):af 282 [f.av,.str a.l] (ca fun _=>True):=by
 refine zw func282 ?_;have d:=f.hr;have c:=a.h
 conv=>whnf
 refine DW.aO aC aD [0,4,16,17] [] 0 (fun i:Nat×Int×Int=>[(18,i64 i.1),(5,i64 i.2.1),(6,i64 i.2.2)]) (fun _=>[]) [] (fun i=>f.cz.length+1 - i.1) ((0,(a.l.length:Int),-1)) ?_
 refine zl fun i=>?_
 refine zg ?_
 repeat' ((refine zp ?_ ?_<;>intro h)<;>refine zg ?_)
 all_goals first|exact zi ((i.1+1,_,_))|skip
 refine DW.aO aC aD [0,4,5,6,47,48] [] 0 (fun i:Nat=>[(49,i64 i)]) (fun _=>[]) [] (fun i=>f.cz.length+1 - i) (0) ?_
 refine zl fun i=>?_
 refine zg ?_
 repeat' ((refine zp ?_ ?_<;>intro h)<;>refine zg ?_)
 all_goals first|exact⟨_,rfl,trivial⟩|exact zi (i+1)
theorem I9 {l:List UInt8}{n:Int}(h:n.toNat<l.length):(l.map fun b=>[AV.int .u8 b.toNat])[n.toNat]? = some [.int .u8 (l[n.toNat]).toNat]:=by simp[h]
theorem KU (f:Fo)(a:BL UInt8)(c:a.l.length≤f.cz.length):af 283 [f.av,.str a.l] (eX fun _=>True):=by
 refine zw func283 ?_;have e:=f.hr;have d:=a.h
 conv=>whnf
 refine DW.aO aC aD [0,4,9,10] [] 0 (fun i:Nat×Int=>[(11,i64 i.1),(5,i64 i.2)]) (fun _=>[]) [] (fun i=>a.l.length+1 - i.1) ((0,0)) ?_
 refine zl fun i=>?_
 refine zg ?_
 repeat' ((first|(refine zp ?_ ?_<;>intro h)|(refine DC.pure rfl (kd _ _) ?_;rintro _ rfl))<;>refine zg ?_)
 all_goals first|exact⟨_,rfl,trivial⟩|exact zi ((i.1+1,_))
theorem N4 {s:List UInt8}{a b:Nat}(h:kr s):kr ((s.drop a).take b):=by
 intro j x c;rw[getElem?_take] at *;split at *
 . rw[getElem?_drop] at *;exact h _ x c
 grind
theorem Zk {s t:List UInt8}(h:Lib.hasSuffix s t=true):t.length≤s.length:=(isSuffixOf_iff_suffix.1 h).length_le
structure Dr where
 d:Int
 f:Int
 i:Nat
 hi:i≤4
 hf : -1≤f∧f≤32
abbrev kJ (s:List UInt8)(w d sc:Int)(b:AV)(dr fi:Int)(cr:Bool)(a:Int):an := .arr 12 [[.str s,.bool true,i64 w,i64 d,i64 sc,.bool false,b,.int .u8 dr,i64 fi,.bool cr,.int .u8 32,i64 a]]
theorem wU (s:List UInt8)(c:Int)(h:s.length≤32) : -1≤fM s c∧fM s c≤32:=by
 unfold fM;rcases BV s c.toNat.toUInt8 with⟨a,_⟩|⟨i,a,b,_⟩<;>grind
theorem F6 (s a:List UInt8)(cr:Bool)(k:a.length≤32):c9 280 [.ptr 3 0 0,.str a] (Tr.put 3 (some (kJ s 0 0 0 .ah 0 0 cr 0)) .nil) 1000
 (fun ae H nx=>ae = .ret (.bool false)∨(∃d f:Int,ae = .ret (.bool true)∧H=Tr.put 3 (some (kJ s 0 0 0 .ah d f cr 0)) .nil∧nx=3011)):=by
 refine zd func280 ?_
 conv=>whnf
 refine DW.aO aC aD [0,1,4] [3] 2000 (fun x:Dr=>[(14,.ak 1 [[AV.int .u8 36],[AV.int .u8 83],[AV.int .u8 43],[AV.int .u8 45]]),(15,i64 4),(16,i64 x.i)]) (fun x=>[(3,kJ s 0 0 0 .ah x.d x.f cr 0)]) [] (fun x=>5 - x.i) (⟨0,-1,0,aa,aa⟩) ?_
 conv=>whnf
 refine⟨?_,fun x=>?_⟩
 . conv => whnf
   (exact iO)
 obtain⟨d,f,i,hi,l⟩:=x;rcases i with _|_|_|_|_|i
 rotate_right
 . exact absurd hi aa
 . have hp : 2 ≤ (Lib.countByte a (UInt8.ofNat (if Utf8.valid 36 = true then Int.toNat 36 else Utf8.runeError)) : Int)->0 ≤ fM a 36 ∧ fM a 36 ≤ Lib.lastIndexByte ⟨a.toArray⟩ 36 ∧ Lib.lastIndexByte ⟨a.toArray⟩ 36 < a.length := fun h => xX a 36 (by have h : 2 ≤ (Lib.countByte a 36 : Int) := h; omega)
   have e:=wU a 36 k;have hwl:2≤(Lib.countByte a (UInt8.ofNat (if Utf8.valid 36=true then Int.toNat 36 else Utf8.runeError)):Int)->wr .i64 (Lib.lastIndexByte ⟨a.toArray⟩ 36+1)=Lib.lastIndexByte ⟨a.toArray⟩ 36+1:=fun h=>aF (by have:=hp h;omega) (by have:=hp h;omega)
   have g:(List.take ((Lib.lastIndexByte ⟨a.toArray⟩ 36+1).toNat - (fM a 36).toNat) (List.drop (fM a 36).toNat a)).length≤a.length:=by simp;omega
   refine zj ?_
   repeat' ((first|(refine Rq.mk zE ?_;rw[hwl bA])|(refine Rq.mk (by have:=hp bA;simp only[qO];omega) ?_)|refine zq ?_|(refine zp ?_ ?_<;>first|exact⟨⟩|intro h)|(refine DC.pure rfl (wC a _) ?_;rintro _ rfl)|(refine DC.pure rfl (kd _ _) ?_;rintro _ rfl)|(refine DC.pure rfl (xp a _ aa) ?_;rintro _ rfl)|(refine DC.pure rfl (pR _ _) ?_;rintro _ rfl)|refine zo ?_)<;>refine zj ?_)
   all_goals first|exact .inl rfl|(refine⟨⟨d,f,1,aa,l⟩,?_,rfl,?_⟩<;>((conv=>whnf);(exact iO);done))|skip
   refine DW.aO aC aD [0,1,4,6,7,14,15,16,17,18,19,20,21,22,23,24,25,26,27,28,29,30,31,32,33,34,35,36,37,38,39,40,41,42,43,44,45,46,47,48,49,50,51,52,53,54,55,56,57,58,59] [] 0 (fun j:Nat=>[(60,i64 j)]) (fun _=>[]) [] (fun j=>a.length+1 - j) (0) ?_
   conv=>whnf
   refine⟨?_,fun j=>?_⟩
   . conv => whnf
     (exact iO)
   refine zg ?_
   repeat' ((first|(refine zp ?_ ?_<;>intro h)|(refine DC.pure rfl (kd _ _) ?_;rintro _ rfl))<;>refine zg ?_)
   all_goals first|exact .inl rfl|(refine⟨⟨36,fM a 36,1,aa,e⟩,?_,rfl,?_⟩<;>((conv=>whnf);(exact iO);done))|(refine⟨j+1,?_,rfl,?_⟩<;>first|((conv=>whnf);(exact iO);done)|omega)
 . have hp : 2 ≤ (Lib.countByte a (UInt8.ofNat (if Utf8.valid 83 = true then Int.toNat 83 else Utf8.runeError)) : Int)->0 ≤ fM a 83 ∧ fM a 83 ≤ Lib.lastIndexByte ⟨a.toArray⟩ 83 ∧ Lib.lastIndexByte ⟨a.toArray⟩ 83 < a.length := fun h => xX a 83 (by have h : 2 ≤ (Lib.countByte a 83 : Int) := h; omega)
   have e:=wU a 83 k;have hwl:2≤(Lib.countByte a (UInt8.ofNat (if Utf8.valid 83=true then Int.toNat 83 else Utf8.runeError)):Int)->wr .i64 (Lib.lastIndexByte ⟨a.toArray⟩ 83+1)=Lib.lastIndexByte ⟨a.toArray⟩ 83+1:=fun h=>aF (by have:=hp h;omega) (by have:=hp h;omega)
   have g:(List.take ((Lib.lastIndexByte ⟨a.toArray⟩ 83+1).toNat - (fM a 83).toNat) (List.drop (fM a 83).toNat a)).length≤a.length:=by simp;omega
   refine zj ?_
   repeat' ((first|(refine Rq.mk zE ?_;rw[hwl bA])|(refine Rq.mk (by have:=hp bA;simp only[qO];omega) ?_)|refine zq ?_|(refine zp ?_ ?_<;>first|exact⟨⟩|intro h)|(refine DC.pure rfl (wC a _) ?_;rintro _ rfl)|(refine DC.pure rfl (kd _ _) ?_;rintro _ rfl)|(refine DC.pure rfl (xp a _ aa) ?_;rintro _ rfl)|(refine DC.pure rfl (pR _ _) ?_;rintro _ rfl)|refine zo ?_)<;>refine zj ?_)
   all_goals first|exact .inl rfl|(refine⟨⟨d,f,2,aa,l⟩,?_,rfl,?_⟩<;>((conv=>whnf);(exact iO);done))|skip
   refine DW.aO aC aD [0,1,4,6,7,14,15,16,17,18,19,20,21,22,23,24,25,26,27,28,29,30,31,32,33,34,35,36,37,38,39,40,41,42,43,44,45,46,47,48,49,50,51,52,53,54,55,56,57,58,59] [] 0 (fun j:Nat=>[(60,i64 j)]) (fun _=>[]) [] (fun j=>a.length+1 - j) (0) ?_
   conv=>whnf
   refine⟨?_,fun j=>?_⟩
   . conv => whnf
     (exact iO)
   refine zg ?_
   repeat' ((first|(refine zp ?_ ?_<;>intro h)|(refine DC.pure rfl (kd _ _) ?_;rintro _ rfl))<;>refine zg ?_)
   all_goals first|exact .inl rfl|(refine⟨⟨83,fM a 83,2,aa,e⟩,?_,rfl,?_⟩<;>((conv=>whnf);(exact iO);done))|(refine⟨j+1,?_,rfl,?_⟩<;>first|((conv=>whnf);(exact iO);done)|omega)
 . have hp : 2 ≤ (Lib.countByte a (UInt8.ofNat (if Utf8.valid 43 = true then Int.toNat 43 else Utf8.runeError)) : Int)->0 ≤ fM a 43 ∧ fM a 43 ≤ Lib.lastIndexByte ⟨a.toArray⟩ 43 ∧ Lib.lastIndexByte ⟨a.toArray⟩ 43 < a.length := fun h => xX a 43 (by have h : 2 ≤ (Lib.countByte a 43 : Int) := h; omega)
   have e:=wU a 43 k;have hwl:2≤(Lib.countByte a (UInt8.ofNat (if Utf8.valid 43=true then Int.toNat 43 else Utf8.runeError)):Int)->wr .i64 (Lib.lastIndexByte ⟨a.toArray⟩ 43+1)=Lib.lastIndexByte ⟨a.toArray⟩ 43+1:=fun h=>aF (by have:=hp h;omega) (by have:=hp h;omega)
   have g:(List.take ((Lib.lastIndexByte ⟨a.toArray⟩ 43+1).toNat - (fM a 43).toNat) (List.drop (fM a 43).toNat a)).length≤a.length:=by simp;omega
   refine zj ?_
   repeat' ((first|(refine Rq.mk zE ?_;rw[hwl bA])|(refine Rq.mk (by have:=hp bA;simp only[qO];omega) ?_)|refine zq ?_|(refine zp ?_ ?_<;>first|exact⟨⟩|intro h)|(refine DC.pure rfl (wC a _) ?_;rintro _ rfl)|(refine DC.pure rfl (kd _ _) ?_;rintro _ rfl)|(refine DC.pure rfl (xp a _ aa) ?_;rintro _ rfl)|(refine DC.pure rfl (pR _ _) ?_;rintro _ rfl)|refine zo ?_)<;>refine zj ?_)
   all_goals first|exact .inl rfl|(refine⟨⟨d,f,3,aa,l⟩,?_,rfl,?_⟩<;>((conv=>whnf);(exact iO);done))|skip
   refine DW.aO aC aD [0,1,4,6,7,14,15,16,17,18,19,20,21,22,23,24,25,26,27,28,29,30,31,32,33,34,35,36,37,38,39,40,41,42,43,44,45,46,47,48,49,50,51,52,53,54,55,56,57,58,59] [] 0 (fun j:Nat=>[(60,i64 j)]) (fun _=>[]) [] (fun j=>a.length+1 - j) (0) ?_
   conv=>whnf
   refine⟨?_,fun j=>?_⟩
   . conv => whnf
     (exact iO)
   refine zg ?_
   repeat' ((first|(refine zp ?_ ?_<;>intro h)|(refine DC.pure rfl (kd _ _) ?_;rintro _ rfl))<;>refine zg ?_)
   all_goals first|exact .inl rfl|(refine⟨⟨43,fM a 43,3,aa,e⟩,?_,rfl,?_⟩<;>((conv=>whnf);(exact iO);done))|(refine⟨j+1,?_,rfl,?_⟩<;>first|((conv=>whnf);(exact iO);done)|omega)
 . have hp : 2 ≤ (Lib.countByte a (UInt8.ofNat (if Utf8.valid 45 = true then Int.toNat 45 else Utf8.runeError)) : Int)->0 ≤ fM a 45 ∧ fM a 45 ≤ Lib.lastIndexByte ⟨a.toArray⟩ 45 ∧ Lib.lastIndexByte ⟨a.toArray⟩ 45 < a.length := fun h => xX a 45 (by have h : 2 ≤ (Lib.countByte a 45 : Int) := h; omega)
   have e:=wU a 45 k;have hwl:2≤(Lib.countByte a (UInt8.ofNat (if Utf8.valid 45=true then Int.toNat 45 else Utf8.runeError)):Int)->wr .i64 (Lib.lastIndexByte ⟨a.toArray⟩ 45+1)=Lib.lastIndexByte ⟨a.toArray⟩ 45+1:=fun h=>aF (by have:=hp h;omega) (by have:=hp h;omega)
   have g:(List.take ((Lib.lastIndexByte ⟨a.toArray⟩ 45+1).toNat - (fM a 45).toNat) (List.drop (fM a 45).toNat a)).length≤a.length:=by simp;omega
   refine zj ?_
   repeat' ((first|(refine Rq.mk zE ?_;rw[hwl bA])|(refine Rq.mk (by have:=hp bA;simp only[qO];omega) ?_)|refine zq ?_|(refine zp ?_ ?_<;>first|exact⟨⟩|intro h)|(refine DC.pure rfl (wC a _) ?_;rintro _ rfl)|(refine DC.pure rfl (kd _ _) ?_;rintro _ rfl)|(refine DC.pure rfl (xp a _ aa) ?_;rintro _ rfl)|(refine DC.pure rfl (pR _ _) ?_;rintro _ rfl)|refine zo ?_)<;>refine zj ?_)
   all_goals first|exact .inl rfl|(refine⟨⟨d,f,4,aa,l⟩,?_,rfl,?_⟩<;>((conv=>whnf);(exact iO);done))|skip
   refine DW.aO aC aD [0,1,4,6,7,14,15,16,17,18,19,20,21,22,23,24,25,26,27,28,29,30,31,32,33,34,35,36,37,38,39,40,41,42,43,44,45,46,47,48,49,50,51,52,53,54,55,56,57,58,59] [] 0 (fun j:Nat=>[(60,i64 j)]) (fun _=>[]) [] (fun j=>a.length+1 - j) (0) ?_
   conv=>whnf
   refine⟨?_,fun j=>?_⟩
   . conv => whnf
     (exact iO)
   refine zg ?_
   repeat' ((first|(refine zp ?_ ?_<;>intro h)|(refine DC.pure rfl (kd _ _) ?_;rintro _ rfl))<;>refine zg ?_)
   all_goals first|exact .inl rfl|(refine⟨⟨45,fM a 45,4,aa,e⟩,?_,rfl,?_⟩<;>((conv=>whnf);(exact iO);done))|(refine⟨j+1,?_,rfl,?_⟩<;>first|((conv=>whnf);(exact iO);done)|omega)
 . refine zg ?_
   repeat' ((refine zp ?_ ?_<;>first|exact⟨⟩|intro h)<;>refine zg ?_)
   all_goals exact .inr ⟨d,f,rfl,rfl,rfl⟩
def wid (l:List Int):Nat:=(l.filter fun r=>!(r == 2)).length
def bj (l:List Int):Nat:=(l.filter fun r=>r == 0 || r == 1).length
theorem Nf (y:Int)(acc:List Int)(r:Int):wid (y::(acc++[r]))=wid (y::acc)+wid [r]:=by
 rw[<-cons_append,wid,filter_append,length_append];rfl
theorem F2 (y:Int)(acc:List Int)(r:Int):bj (y::(acc++[r]))=bj (y::acc)+bj [r]:=by
 rw[<-cons_append,bj,filter_append,length_append];rfl
theorem s_ (l:List Int):wid l≤l.length:=length_filter_le ..
theorem F3 (l:List Int):bj l≤l.length:=length_filter_le ..
structure Pl (n:Nat) where
 l:List Int
 sc:Int
 fm:Int
 pt:Int
 bh:Bool
 hl:l.length≤n
 hs:0≤sc∧sc≤40 * l.length
 hf:0≤fm∧fm≤l.length
 hp:0≤pt∧pt≤l.length
 hr:∀r∈l,0≤r∧r≤5
theorem u0 {r:Int}(h:0≤r∧r≤5):∀x∈[r],0≤x∧x≤5:=by grind
theorem uZ {y:Int}{acc:List Int}{r:Int}(h:∀x∈y::acc,0≤x∧x≤5)(a:0≤r∧r≤5):∀x∈y::(acc++[r]),0≤x∧x≤5:=by
 grind
theorem R3 {s:List UInt8}{w w' d e sc a dr fi fm c:Int}{f b:AV}{cr:Bool}(h:w=w')(i:d=e)(j:sc=a)(k:f=b)(g:fm=c):kJ s w d sc f dr fi cr fm=kJ s w' e a b dr fi cr c:=by
 grind
abbrev dU (n:Int):List AV:=[i64 n]
inductive Mk:Nat->Prop|mk (n:Nat):Mk n
theorem J2 {n:Int}(h:0≤n∧n≤5):(n=0∧Mk 0)∨(n=1∧Mk 1)∨(n=2∧Mk 2)∨(Mk 3∧n≠0∧n≠1∧n≠2):=by
 have b:=Mk.mk 0;have c:=Mk.mk 1;have d:=Mk.mk 2;have a:=Mk.mk 3
 grind
theorem vo {n:Int}(h:n≠2):wid [n]=1:=by simp[wid,h]
theorem ug {n:Int}(h:n≠0)(a:n≠1):bj [n]=0:=by simp[bj,h,a]
theorem aJ {α a:Type}{f:α->Option a}{x:α}{l:List α}{y:a}{r:List a}(h:f x=some y)(b:aM f l=some r):aM f (x::l)=some (y::r):=by simp[aM,h,b]
theorem qR {H:ai}{n k sz:Nat}{e:List AV}{es:List (List AV)}{cs:List AV}(b:H.get k=some (.arr sz (e::es)))(a:aM (snap H n) e=some cs):snap H (n+1) (.ptr k 0 0)=some (.bq cs):=by
 simp[snap,b,a]
theorem R4 {H:ai}{s:List UInt8}{w d sc dr fi fm:Int}{cr:Bool}{y:Int}{acc:List Int}(e:s.length≤32)(f:(y::acc).length≤40)(g:H.get 3=some (kJ s w d sc (.az 14000 0 ((acc.map dU).length+1) 1) dr fi cr fm))(h:H.get 14000=some (.arr 1 (dU y::acc.map dU)))(c a:Int) :
 aM (snap H 20) [.ptr 3 0 0,.int .u8 c,.int .i64 a]=some [(Fo.mk s true w d sc false (y::acc) dr fi cr 32 fm e f).av,.int .u8 c,.int .i64 a]:=by
 have i:snap H 19 _=some _:=gV (fun _=>rfl) h
 have b:aM (snap H _) [.str s,.bool true,i64 w,i64 d,i64 sc,.bool false,.az _ 0 _ 1,.int .u8 dr,i64 fi,.bool cr,.int .u8 32,i64 fm] =
  some _:=
  aJ rfl (aJ rfl (aJ rfl (aJ rfl (aJ rfl (aJ rfl (aJ i rfl))))))
 exact aJ (qR g b) rfl
theorem Xx (s:List UInt8)(w d sc dr fi fm c a:Int)(cr:Bool):af 312 [.bq [.str s,.bool true,i64 w,i64 d,i64 sc,.bool false,.ah,.int .u8 dr,i64 fi,.bool cr,.int .u8 32,i64 fm],.int .u8 c,i64 a] (fun e=>∃n:Int,e = .ret (.int .i64 n)∧0≤n∧n≤5):=by
 refine zw func312 ?_;refine zg ?_
 repeat' ((first|(refine zp ?_ ?_<;>intro h)|(refine DC.pure rfl (kd _ _) ?_;rintro _ rfl))<;>refine zg ?_)
 all_goals exact⟨_,rfl,ab,ab⟩
theorem Jr (s c:List UInt8)(cr:Bool)(dr fi:Int)(F:c.length≤32)(o:s.length≤32):c9 281 [.ptr 3 0 0,.str c] (Tr.put 3 (some (kJ s 0 0 0 .ah dr fi cr 0)) .nil) 10000
 (fun v H nx => v = .ret (.bool false) ∨ (∃(y:Int) (acc:List Int) (sc fm:Int),v = .ret (.bool true)∧H=Tr.put 3 (some (kJ s (wid (y::acc)) (bj (y::acc)) sc (.az 14000 0 ((acc.map dU).length+1) 1) dr fi cr fm)) (Tr.put 14000 (some (.arr 1 (dU y::acc.map dU))) .nil)∧nx=15038 ∧
   acc.length+1=c.length∧1≤bj (y::acc)∧bj (y::acc)≤9∧∀r∈y::acc,0≤r∧r≤5)):=by
 refine zd func281 ?_
 conv=>whnf
 have w0:wid [0]=1:=rfl;have wn:wid []=0:=rfl;have dn:bj []=0:=rfl;have w1:wid [1]=1:=rfl;have w2:wid [2]=0:=rfl;have d0:bj [0]=1:=rfl;have d1:bj [1]=1:=rfl;have d2:bj [2]=0:=rfl;refine DW.aO aC aD [0,4,11,12] [3] 5000 (fun x:Pl c.length=>[(5,i64 x.pt),(6,.bool x.bh),(13,i64 x.l.length)]) (fun x=>(3,kJ s (wid x.l) (bj x.l) x.sc (fc 14000 1 (x.l.map dU)) dr fi cr x.fm)::e_ 14000 1 (x.l.map dU)) [(14000,.cell 3 6)] (fun x=>40 - x.l.length) (⟨[],0,0,0,false,ag,ag,ag,ag,ag⟩) ?_
 conv=>whnf
 refine⟨?_,fun x=>?_⟩
 . conv => whnf
   (exact lO)
 obtain⟨l,sc,fm,a,k,p,u,q,z,j⟩:=x;rcases l with _|⟨y,acc⟩
 . simp only [length_nil] at p u q z
   have E:([]:List Int).length=0:=rfl;refine zk ?_
   repeat' ((first|refine zf ?_|(refine zp ?_ ?_<;>first|exact⟨⟩|intro h)|(refine DC.flat rfl (Xx _ _ _ _ _ _ _ _ _ _) ?_;rintro _ ⟨n,rfl,m⟩;rcases J2 m with⟨rfl,b⟩|⟨rfl,b⟩|⟨rfl,b⟩|⟨b,f,g,i⟩<;>refine⟨rfl,?_⟩)|refine ay.mk _ (I9 (n:=0) aa) ?_)<;>refine zk ?_)
   all_goals first|exact .inl rfl|(rename Mk 0=>e;refine⟨⟨[0],sc+a,fm+1,a,k,df,df,df,df,u0 ab⟩,?_,rfl,?_⟩<;>((conv=>whnf);(exact lO);done))|(rename Mk 1=>e;refine⟨⟨[1],sc+a,fm,a,true,df,df,df,df,u0 ab⟩,?_,rfl,?_⟩<;>((conv=>whnf);(exact lO);done))|(rename Mk 1=>e;refine⟨⟨[1],sc+a,fm,a,false,df,df,df,df,u0 ab⟩,?_,rfl,?_⟩<;>((conv=>whnf);(exact lO);done))|(rename Mk 2=>e;refine⟨⟨[2],sc,fm,a+1,k,df,df,df,df,u0 ab⟩,?_,rfl,?_⟩<;>((conv=>whnf);(exact lO);done))|(rename Mk 3=>e;have C:=vo i;have B:=ug f g;refine⟨⟨[n],sc,fm,a,k,df,df,df,df,u0 m⟩,?_,rfl,?_⟩<;>((conv=>whnf);(exact lO);done))
 . simp only [length_cons] at p u q z
   have D:=s_ (y::acc);have A:=F3 (y::acc);simp only[length_cons] at D A;refine zk ?_
   repeat' ((first|refine zf ?_|(refine Rq.mk (di 8 64 ag rfl rfl q9 ab) ?_)|(refine zp ?_ ?_<;>first|exact⟨⟩|intro h)|(refine DC.flat (R4 (s:=s) (w:=wid (y::acc)) (d:=bj (y::acc)) (sc:=sc) (dr:=dr) (fi:=fi) (fm:=fm) (cr:=cr) (y:=y) (acc:=acc) o (by simp only[length_cons] at *;omega) rfl rfl _ _) (Xw _ _ _) ?_;rintro _ ⟨n,rfl,m⟩;rcases J2 m with⟨rfl,b⟩|⟨rfl,b⟩|⟨rfl,b⟩|⟨b,f,g,i⟩<;>refine⟨rfl,?_⟩)|(refine ay.mk _ (I9 (n:=((y::acc).length:Int)) (by simp only[length_cons];omega)) ?_))<;>refine zk ?_)
   all_goals first|exact .inl rfl|(rename Mk 0=>e;refine⟨⟨y::(acc++[0]),sc+a,fm+1,a,k,df,df,df,df,uZ j ab⟩,?_,rfl,?_⟩<;>first|((conv=>whnf);(exact lO);done)|(dsimp only;simp only[length_cons,length_append,length_nil];omega))|(rename Mk 1=>e;refine⟨⟨y::(acc++[1]),sc+a,fm,a,true,df,df,df,df,uZ j ab⟩,?_,rfl,?_⟩<;>first|((conv=>whnf);(exact lO);done)|(dsimp only;simp only[length_cons,length_append,length_nil];omega))|(rename Mk 1=>e;refine⟨⟨y::(acc++[1]),sc+a,fm,a,false,df,df,df,df,uZ j ab⟩,?_,rfl,?_⟩<;>first|((conv=>whnf);(exact lO);done)|(dsimp only;simp only[length_cons,length_append,length_nil];omega))|(rename Mk 2=>e;refine⟨⟨y::(acc++[2]),sc,fm,a+1,k,df,df,df,df,uZ j ab⟩,?_,rfl,?_⟩<;>first|((conv=>whnf);(exact lO);done)|(dsimp only;simp only[length_cons,length_append,length_nil];omega))|(rename Mk 3=>e;have C:=vo i;have B:=ug f g;refine⟨⟨y::(acc++[n]),sc,fm,a,k,df,df,df,df,uZ j m⟩,?_,rfl,?_⟩<;>first|((conv=>whnf);(exact lO);done)|(dsimp only;simp only[length_cons,length_append,length_nil];omega))|exact .inr ⟨y,acc,sc,fm,rfl,rfl,rfl,aa,aa,aa,j⟩
theorem G_ {k:Nat}{o o':Option an}{t:ai}(j:Nat):(Tr.put k o (Tr.put k o' t)).get j=(Tr.put k o t).get j:=by
 simp[Tr.get]
 grind
theorem wY {H:ai}{s:List UInt8}{w d sc dr fi fm:Int}{cr:Bool}{y:Int}{acc:List Int}(c:s.length≤32)(e:(y::acc).length≤40)(f:H.get 3=some (kJ s w d sc (.az 14000 0 ((acc.map dU).length+1) 1) dr fi cr fm))(g:H.get 14000=some (.arr 1 (dU y::acc.map dU)))(b:List UInt8) :
 aM (snap H 20) [.ptr 3 0 0,.str b]=some [(Fo.mk s true w d sc false (y::acc) dr fi cr 32 fm c e).av,.str b]:=by
 have h:snap H 19 _=some _:=gV (fun _=>rfl) g
 have a:aM (snap H _) [.str s,.bool true,i64 w,i64 d,i64 sc,.bool false,.az _ 0 _ 1,.int .u8 dr,i64 fi,.bool cr,.int .u8 32,i64 fm] =
  some _:=
  aJ rfl (aJ rfl (aJ rfl (aJ rfl (aJ rfl (aJ rfl (aJ h rfl))))))
 exact aJ (qR f a) rfl
theorem tV (B m a:Nat){i len d c b:Nat}(f:i+len≤d)(g:c=a)(h:b=B)(j:len≤m)(e:(m+a) * (B+1)≤140737488355328) :
 (ble (i+len) d && ble ((len+c) * (b+1)) 140737488355328)=true:=by
 subst g;subst h;rw[ble_eq_true_of_le f,ble_eq_true_of_le (Nat.le_trans (mul_le_mul_right _ (Nat.add_le_add_right j _)) e)];rfl
theorem Dt {α:Type}{f:α->List AV}{H:ai}{k sz n:Nat}{l:List α}(e:∀x,aM (snap H n) (f x)=some (f x))(c:H.get k=some (.arr sz (l.map f))):snap H (n+1) (.az k 0 l.length sz)=some (.ak sz (l.map f)):=by
 have b:aM (aM (snap H n)) _=some (l.map f):=sn (by simp_all)
 have d:List.take l.length (List.drop 0 _)=l.map f:=take_of_length_le ag;have a:(sz == sz && ble (0+l.length) (l.map f).length)=true:=ag;simp only[snap,c,a,d,b]
theorem iW {H:ai}{s:List UInt8}{w d sc dr fi fm fl:Int}{sg cr:Bool}{k n:Nat}{E:List (List AV)}{l:List Int}(b:s.length≤32)(c:l.length≤40)
 (e:H.get 3=some (.arr 12 [[.str s,.bool true,i64 w,i64 d,i64 sc,.bool sg,.az k 0 n 1,.int .u8 dr,i64 fi,.bool cr,.int .u8 fl,i64 fm]]))(f:H.get k=some (.arr 1 E))(g:E=l.map dU)(h:n=l.length) :
 snap H 20 (.ao [.ptr 3 0 0,.bool true])=some (.ao [(Fo.mk s true w d sc sg l dr fi cr fl fm b c).av,.bool true]):=by
 have i:snap H 18 (.az k 0 n 1)=some (aU l):=by
  subst g;subst h;exact Dt (fun _=>rfl) f
 have j:aM (snap H _) [.str s,.bool true,i64 w,i64 d,i64 sc,.bool sg,.az k 0 n 1,.int .u8 dr,i64 fi,.bool cr,.int .u8 fl,i64 fm] =
  some _:=
  aJ rfl (aJ rfl (aJ rfl (aJ rfl (aJ rfl (aJ rfl (aJ i rfl))))))
 have m:aM (snap H _) [.ptr 3 0 0,.bool true]=some _:=aJ (qR e j) rfl;show(match aM _ _ with|some a=>some (AV.ao a)|none=>none)=_
 rw[m]
structure py (f:Fo):Prop where
 num:f.num=true
 w:f.width=wid f.cz
 d:f.digits=bj f.cz
 d1:1≤bj f.cz∧bj f.cz≤9
 r:∀r∈f.cz,0≤r∧r≤5
 l:f.cz.length=f.spec.length
theorem oZ {y:Int}{acc:List Int}:List.take ((acc.map dU).length+1) (List.drop 0 (dU y::acc.map dU))++[[i64 4],[i64 4]]=(y::(acc++[4,4])).map dU:=by
 grind
theorem y_ {y:Int}{acc:List Int}:wid (y::(acc++[4,4]))=wid (y::acc)+2:=by
 rw[<-cons_append,wid,filter_append,length_append];rfl
theorem oj {y:Int}{acc:List Int}:bj (y::(acc++[4,4]))=bj (y::acc):=by
 rw[<-cons_append,bj,filter_append,length_append];rfl
theorem yq {y:Int}{acc:List Int}(h:∀x∈y::acc,0≤x∧x≤5):∀x∈y::(acc++[4,4]),0≤x∧x≤5:=by
 grind
theorem VZ (s:List UInt8)(c:s.length≤32)(D:1≤s.length)(u:kr s):af 241 [.str s] (fun x=>x = .ret (.ao [.dF,.bool false])∨∃f:Fo,x = .ret (.ao [f.av,.bool true])∧py f∧f.spec=s):=by
 refine zw func241 ?_;have q:wr IntKind.i64 ((s.length:Int) - 2)=s.length - 2:=aF aa aa;have t:∀a b,Lib.hasSuffix s [a,b]=true->2≤s.length:=fun a b h=>Zk h
 refine zj ?_
 repeat' ((first|(refine Rq.mk (by rw[q];have:=t _ _ bA;simp only[qO];omega) ?_;rw[q])|refine zf ?_|(refine Rq.mk (tV 8 64 2 ag rfl rfl (by simp only[length_map];(try simp only[length_take,length_drop] at hl);omega) ab) ?_)|refine zq ?_|(refine zp ?_ ?_<;>intro h)|(refine DC.pure rfl (SD s _ aa) ?_;rintro _ rfl)|(refine DC.pure rfl (FY _ _ (by first|omega|(simp only[length_take,length_drop];omega)) ab (by first|exact u|exact N4 u) (vN ab)) ?_;rintro _ rfl)|(refine DC.pure rfl (pR _ _) ?_;rintro _ rfl)|(refine DC.bump (m:=1000) rfl (DC.heap (K:=Tr.put 3 (some (kJ s 0 0 0 .ah 0 0 true 0)) .nil) (fun j=>?_) ?_);(repeat refine(G_ j).trans ?_);rfl;refine DC.mono (F6 s _ true zC) ?_;rintro _ _ _ (rfl|⟨d,f,rfl,rfl,rfl⟩))|(refine DC.bump (m:=1000) rfl (DC.heap (K:=Tr.put 3 (some (kJ s 0 0 0 .ah 0 0 false 0)) .nil) (fun j=>?_) ?_);(repeat refine(G_ j).trans ?_);rfl;refine DC.mono (F6 s _ false zC) ?_;rintro _ _ _ (rfl|⟨d,f,rfl,rfl,rfl⟩))|(refine DC.bump (m:=10000) rfl ?_;refine DC.mono (Jr s _ true d f zC c) ?_;rintro _ _ _ (rfl|⟨y,acc,g,e,rfl,rfl,rfl,hl,lF,o,p⟩))|(refine DC.bump (m:=10000) rfl ?_;refine DC.mono (Jr s _ false d f zC c) ?_;rintro _ _ _ (rfl|⟨y,acc,g,e,rfl,rfl,rfl,hl,lF,o,p⟩))|(refine DC.flat (wY (s:=s) (w:=wid (y::acc)) (d:=bj (y::acc)) (sc:=g) (dr:=d) (fi:=f) (fm:=e) (cr:=true) (y:=y) (acc:=acc) c zy rfl rfl _) (Lm _ ⟨_,by(first|omega|(simp only[length_take,length_drop];omega))⟩) ?_;rintro _ ⟨C,rfl,-⟩<;>refine⟨rfl,?_⟩)|(refine DC.flat (wY (s:=s) (w:=wid (y::acc)) (d:=bj (y::acc)) (sc:=g) (dr:=d) (fi:=f) (fm:=e) (cr:=false) (y:=y) (acc:=acc) c zy rfl rfl _) (Lm _ ⟨_,by(omega)⟩) ?_;rintro _ ⟨C,rfl,-⟩<;>refine⟨rfl,?_⟩)|(refine DC.flat (wY (s:=s) (w:=wid (y::acc)) (d:=bj (y::acc)) (sc:=g) (dr:=d) (fi:=f) (fm:=e) (cr:=true) (y:=y) (acc:=acc) c zy rfl rfl _) (KU _ ⟨_,by(first|omega|(simp only[length_take,length_drop];omega))⟩ (by show _≤(y::acc).length;simp only[length_cons];omega)) ?_;rintro _ ⟨B,rfl,-⟩<;>refine⟨rfl,?_⟩)|(refine DC.flat (wY (s:=s) (w:=wid (y::acc)) (d:=bj (y::acc)) (sc:=g) (dr:=d) (fi:=f) (fm:=e) (cr:=false) (y:=y) (acc:=acc) c zy rfl rfl _) (KU _ ⟨_,by(omega)⟩ (by show _≤(y::acc).length;simp only[length_cons];omega)) ?_;rintro _ ⟨B,rfl,-⟩<;>refine⟨rfl,?_⟩))<;>refine zj ?_)
 all_goals first|exact .inl rfl|skip
 all_goals have r:=s_ (y::acc)
 all_goals simp only[length_cons] at r
 all_goals have A:acc.length+1≤32:=by first|omega|(simp only[length_take,length_drop] at hl;omega)
 all_goals split
 all_goals first
  | (rename_i E i
     first
     | (obtain rfl:=Option.some.inj (i.symm.trans (iW (s:=s) (w:=wid (y::acc)) (d:=bj (y::acc)) (sc:=g) (dr:=d) (fi:=f) (fm:=e) (fl:=32) (sg:=true) (cr:=false) (l:=y::acc) (n:=(acc.map dU).length+1) c jk rfl rfl rfl ag));(conv=>whnf);exact .inr ⟨_,rfl,⟨rfl,rfl,rfl,⟨lF,o⟩,p,zD⟩,rfl⟩)
     | (obtain rfl:=Option.some.inj (i.symm.trans (iW (s:=s) (w:=wid (y::acc)) (d:=bj (y::acc)) (sc:=g) (dr:=d) (fi:=f) (fm:=e) (fl:=42) (sg:=true) (cr:=false) (l:=y::acc) (n:=(acc.map dU).length+1) c jk rfl rfl rfl ag));(conv=>whnf);exact .inr ⟨_,rfl,⟨rfl,rfl,rfl,⟨lF,o⟩,p,zD⟩,rfl⟩)
     | (obtain rfl:=Option.some.inj (i.symm.trans (iW (s:=s) (w:=wid (y::acc)) (d:=bj (y::acc)) (sc:=g) (dr:=d) (fi:=f) (fm:=e) (fl:=32) (sg:=false) (cr:=false) (l:=y::acc) (n:=(acc.map dU).length+1) c jk rfl rfl rfl ag));(conv=>whnf);exact .inr ⟨_,rfl,⟨rfl,rfl,rfl,⟨lF,o⟩,p,zD⟩,rfl⟩)
     | (obtain rfl:=Option.some.inj (i.symm.trans (iW (s:=s) (w:=wid (y::acc)) (d:=bj (y::acc)) (sc:=g) (dr:=d) (fi:=f) (fm:=e) (fl:=42) (sg:=false) (cr:=false) (l:=y::acc) (n:=(acc.map dU).length+1) c jk rfl rfl rfl ag));(conv=>whnf);exact .inr ⟨_,rfl,⟨rfl,rfl,rfl,⟨lF,o⟩,p,zD⟩,rfl⟩)
     | (obtain rfl:=Option.some.inj (i.symm.trans (iW (s:=s) (w:=wr .i64 ((wid (y::acc):Int)+2)) (d:=bj (y::acc)) (sc:=g) (dr:=d) (fi:=f) (fm:=e) (fl:=32) (sg:=true) (cr:=true) (l:=y::(acc++[4,4])) (n:=(acc.map dU).length+1+2) c jk rfl rfl oZ ag));(conv=>whnf);exact .inr ⟨_,rfl,⟨rfl,(by show wr .i64 _=_;rw[aF aa aa,y_];omega),(by show(bj _:Int)=_;rw[oj]),(by show 1≤bj _∧bj _≤9;rw[oj];omega),yq p,zv⟩,rfl⟩)
     | (obtain rfl:=Option.some.inj (i.symm.trans (iW (s:=s) (w:=wr .i64 ((wid (y::acc):Int)+2)) (d:=bj (y::acc)) (sc:=g) (dr:=d) (fi:=f) (fm:=e) (fl:=42) (sg:=true) (cr:=true) (l:=y::(acc++[4,4])) (n:=(acc.map dU).length+1+2) c jk rfl rfl oZ ag));(conv=>whnf);exact .inr ⟨_,rfl,⟨rfl,(by show wr .i64 _=_;rw[aF aa aa,y_];omega),(by show(bj _:Int)=_;rw[oj]),(by show 1≤bj _∧bj _≤9;rw[oj];omega),yq p,zv⟩,rfl⟩)
     | (obtain rfl:=Option.some.inj (i.symm.trans (iW (s:=s) (w:=wr .i64 ((wid (y::acc):Int)+2)) (d:=bj (y::acc)) (sc:=g) (dr:=d) (fi:=f) (fm:=e) (fl:=32) (sg:=false) (cr:=true) (l:=y::(acc++[4,4])) (n:=(acc.map dU).length+1+2) c jk rfl rfl oZ ag));(conv=>whnf);exact .inr ⟨_,rfl,⟨rfl,(by show wr .i64 _=_;rw[aF aa aa,y_];omega),(by show(bj _:Int)=_;rw[oj]),(by show 1≤bj _∧bj _≤9;rw[oj];omega),yq p,zv⟩,rfl⟩)
     | (obtain rfl:=Option.some.inj (i.symm.trans (iW (s:=s) (w:=wr .i64 ((wid (y::acc):Int)+2)) (d:=bj (y::acc)) (sc:=g) (dr:=d) (fi:=f) (fm:=e) (fl:=42) (sg:=false) (cr:=true) (l:=y::(acc++[4,4])) (n:=(acc.map dU).length+1+2) c jk rfl rfl oZ ag));(conv=>whnf);exact .inr ⟨_,rfl,⟨rfl,(by show wr .i64 _=_;rw[aF aa aa,y_];omega),(by show(bj _:Int)=_;rw[oj]),(by show 1≤bj _∧bj _≤9;rw[oj];omega),yq p,zv⟩,rfl⟩)
     )
  | (rename_i i
     first
     | (have k:=i.symm.trans (iW (s:=s) (w:=wid (y::acc)) (d:=bj (y::acc)) (sc:=g) (dr:=d) (fi:=f) (fm:=e) (fl:=32) (sg:=true) (cr:=false) (l:=y::acc) (n:=(acc.map dU).length+1) c jk rfl rfl rfl ag);cases k)
     | (have k:=i.symm.trans (iW (s:=s) (w:=wid (y::acc)) (d:=bj (y::acc)) (sc:=g) (dr:=d) (fi:=f) (fm:=e) (fl:=42) (sg:=true) (cr:=false) (l:=y::acc) (n:=(acc.map dU).length+1) c jk rfl rfl rfl ag);cases k)
     | (have k:=i.symm.trans (iW (s:=s) (w:=wid (y::acc)) (d:=bj (y::acc)) (sc:=g) (dr:=d) (fi:=f) (fm:=e) (fl:=32) (sg:=false) (cr:=false) (l:=y::acc) (n:=(acc.map dU).length+1) c jk rfl rfl rfl ag);cases k)
     | (have k:=i.symm.trans (iW (s:=s) (w:=wid (y::acc)) (d:=bj (y::acc)) (sc:=g) (dr:=d) (fi:=f) (fm:=e) (fl:=42) (sg:=false) (cr:=false) (l:=y::acc) (n:=(acc.map dU).length+1) c jk rfl rfl rfl ag);cases k)
     | (have k:=i.symm.trans (iW (s:=s) (w:=wr .i64 ((wid (y::acc):Int)+2)) (d:=bj (y::acc)) (sc:=g) (dr:=d) (fi:=f) (fm:=e) (fl:=32) (sg:=true) (cr:=true) (l:=y::(acc++[4,4])) (n:=(acc.map dU).length+1+2) c jk rfl rfl oZ ag);cases k)
     | (have k:=i.symm.trans (iW (s:=s) (w:=wr .i64 ((wid (y::acc):Int)+2)) (d:=bj (y::acc)) (sc:=g) (dr:=d) (fi:=f) (fm:=e) (fl:=42) (sg:=true) (cr:=true) (l:=y::(acc++[4,4])) (n:=(acc.map dU).length+1+2) c jk rfl rfl oZ ag);cases k)
     | (have k:=i.symm.trans (iW (s:=s) (w:=wr .i64 ((wid (y::acc):Int)+2)) (d:=bj (y::acc)) (sc:=g) (dr:=d) (fi:=f) (fm:=e) (fl:=32) (sg:=false) (cr:=true) (l:=y::(acc++[4,4])) (n:=(acc.map dU).length+1+2) c jk rfl rfl oZ ag);cases k)
     | (have k:=i.symm.trans (iW (s:=s) (w:=wr .i64 ((wid (y::acc):Int)+2)) (d:=bj (y::acc)) (sc:=g) (dr:=d) (fi:=f) (fm:=e) (fl:=42) (sg:=false) (cr:=true) (l:=y::(acc++[4,4])) (n:=(acc.map dU).length+1+2) c jk rfl rfl oZ ag);cases k)
     )
theorem yx {α:Type}{f:α->List AV}{ρ:Nat->Nat}(hf:∀x,(f x).map (AV.r1 ρ)=f x){y:α}{acc:List α}:f y::acc.map f=(f y::acc.map f).map (List.map (AV.r1 ρ)):=by
 simp[hf,Function.comp_def]
theorem EZ {a b:Nat}:(blt a b=false)=(b≤a):=by
 apply propext
 constructor
 . intro h
   rcases Nat.lt_or_ge a b with h1|h1
   . rw[show blt a b=true from ble_eq_true_of_le h1] at h;cases h
   . exact h1
 . intro h
   cases e:blt a b with
   | false=>rfl
   | true=>have:=le_of_ble_eq_true e;omega
theorem Rj (s:List UInt8)(hs:s.length<281474976710656):af 238 [.str s] (fun ae=>∃(r:List UInt8) (b:Bool),ae = .ret (.ao [.str r,.bool b])∧(b=true->r.length≤32∧1≤r.length∧kr r)):=by
 refine zw func238 ?_
 conv=>whnf
 refine DW.aO aC aD [2,3,7,11] [7] 2000 (fun x:Nw s=>[(4,fc 1000 1 (x.acc.map fun n=>[AV.int .u8 n])),(5,i64 x.st),(6,i64 x.n)]) (fun x=>(7,.dG s x.pos)::e_ 1000 1 (x.acc.map fun n=>[AV.int .u8 n])) [(1000,.slot 4)] (fun x=>s.length - x.pos) (⟨0,0,0,[],aa,aa,aa,(fun _ h=>absurd h ag),ag⟩) ?_
 conv=>whnf
 refine⟨?_,fun x=>?_⟩
 . conv => whnf
   (exact gy)
 obtain⟨pos,st,n,acc,dw,hn,h2,ha,hl⟩:=x;have hc0:=Qy s pos;have hc1:=Qx s pos;have hw1:wr .i32 (jI s pos - 32)=jI s pos - 32:=Ni aa aa;have hdw:=Qz s pos;rcases acc with _|⟨y,acc⟩
 . skip
   refine zg ?_
   repeat' ((first|(refine Br.split (b:=blt pos s.length) (fun h=>?_) (fun h=>?_)<;>(simp only[blt_eq,EZ] at h))|(refine zp ?_ ?_<;>first|exact⟨⟩|intro h)|(refine DC.pure rfl (kd _ _) ?_;rintro _ rfl)|(refine DC.pure rfl (JW n _ hn) ?_;rintro _ ⟨m1,b1,rfl,hb1⟩)|refine zd func270 ?_)<;>refine zg ?_)
   all_goals first|exact⟨_,_,rfl,fun h=>absurd h ab⟩|(refine⟨⟨pos+hU s pos,2,n,[],aa,aa,aa,ha,hl⟩,?_,rfl,?_⟩<;>first|((conv=>whnf);(exact gy);done)|(dsimp only;omega))|(refine⟨⟨pos+hU s pos,st,m1,[],aa,by have:=hb1 bA;omega,aa,ha,hl⟩,?_,rfl,?_⟩<;>first|((conv=>whnf);(exact gy);done)|(dsimp only;omega))|(refine⟨⟨pos+hU s pos,1,0,[],aa,aa,aa,ha,hl⟩,?_,rfl,?_⟩<;>first|((conv=>whnf);(exact gy);done)|(dsimp only;omega))|skip
   all_goals first|exact⟨_,_,rfl,fun _=>⟨by simpa using hl,ag,EM ha⟩⟩|skip
   all_goals
    refine DW.aO aC aD [1,6,7,31] [1000] 3000 (fun z:Ev 0=>[(0,fc 4000 1 (z.l.map fun n=>[AV.int .u8 n])),(32,i64 z.j)]) (fun z=>e_ 4000 1 (z.l.map fun n=>[AV.int .u8 n])) [(4000,.slot 0)] (fun z=>40 - z.j) (⟨0,[],ag,by simpa using hl,ha⟩) ?_
    conv=>whnf
    refine⟨?_,fun z=>?_⟩
    . conv => whnf
      (exact gy)
    first|rw[aF (by(try simp only[length_cons] at *);omega) (by(try simp only[length_cons] at *);omega)] at h|skip
    obtain⟨zj,zl,zhl,zhj,zha⟩:=z;rcases zl with _|⟨w1,zl⟩
    . skip
      refine zg ?_
      repeat' ((first|refine zf ?_|(refine zp ?_ ?_<;>first|exact⟨⟩|intro h))<;>refine zg ?_)
      all_goals first|(refine⟨⟨zj+1,[wr .u8 (jI s pos)],th,tu,rW zha aa⟩,?_,rfl,?_⟩<;>first|((conv=>whnf);(exact gy);done)|(dsimp only;omega))|(refine⟨⟨zj+1,[wr .u8 (wr .i32 (jI s pos - 32))],th,tu,rW zha aa⟩,?_,rfl,?_⟩<;>first|((conv=>whnf);(exact gy);done)|(dsimp only;omega))|(refine⟨⟨pos+hU s pos,0,n,[],aa,aa,aa,zha,tt⟩,?_,rfl,?_⟩<;>first|((conv=>whnf);(exact gy);done)|(dsimp only;omega))|(refine⟨⟨pos+hU s pos,st,n,[],aa,aa,aa,zha,tt⟩,?_,rfl,?_⟩<;>first|((conv=>whnf);(exact gy);done)|(dsimp only;omega))
    . have zm := zhl
      simp only[length_cons] at zm
      try simp only[length_cons] at zhj
      refine zg ?_
      repeat' ((first|refine zf ?_|(refine Rq.mk (di 1 64 ag rfl rfl q9 ab) ?_)|(refine zp ?_ ?_<;>first|exact⟨⟩|intro h))<;>refine zg ?_)
      all_goals first|(refine⟨⟨zj+1,w1::(zl++[wr .u8 (jI s pos)]),th,tu,rW zha aa⟩,?_,rfl,?_⟩<;>first|((conv=>whnf);(exact gy);done)|(dsimp only;omega))|(refine⟨⟨zj+1,w1::(zl++[wr .u8 (wr .i32 (jI s pos - 32))]),th,tu,rW zha aa⟩,?_,rfl,?_⟩<;>first|((conv=>whnf);(exact gy);done)|(dsimp only;omega))|(refine⟨⟨pos+hU s pos,0,n,w1::zl,aa,aa,aa,zha,tt⟩,?_,rfl,?_⟩<;>first|((conv=>whnf);(exact gy);done)|(dsimp only;omega))|(refine⟨⟨pos+hU s pos,st,n,w1::zl,aa,aa,aa,zha,tt⟩,?_,rfl,?_⟩<;>first|((conv=>whnf);(exact gy);done)|(dsimp only;omega))
 . skip
   have hl9:=hl;simp only[length_cons] at hl9;refine zk ?_
   repeat' ((first|(refine Br.split (b:=blt pos s.length) (fun h=>?_) (fun h=>?_)<;>(simp only[blt_eq,EZ] at h))|(refine zp ?_ ?_<;>first|exact⟨⟩|intro h)|(refine DC.pure rfl (kd _ _) ?_;rintro _ rfl)|(refine DC.pure rfl (JW n _ hn) ?_;rintro _ ⟨m1,b1,rfl,hb1⟩)|refine zd func270 ?_|(refine ay.mk _ (by erw [vi ag];exact ud (l:=y::acc)) ?_))<;>refine zk ?_)
   all_goals first|exact⟨_,_,rfl,fun h=>absurd h ab⟩|(refine⟨⟨pos+hU s pos,2,n,y::acc,aa,aa,aa,ha,hl⟩,?_,rfl,?_⟩<;>first|((conv=>whnf);(exact gy);done)|(dsimp only;omega))|(refine⟨⟨pos+hU s pos,st,m1,y::acc,aa,by have:=hb1 bA;omega,aa,ha,hl⟩,?_,rfl,?_⟩<;>first|((conv=>whnf);(exact gy);done)|(dsimp only;omega))|(refine⟨⟨pos+hU s pos,1,0,y::acc,aa,aa,aa,ha,hl⟩,?_,rfl,?_⟩<;>first|((conv=>whnf);(exact gy);done)|(dsimp only;omega))|skip
   all_goals first|exact⟨_,_,rfl,fun _=>⟨by simpa using hl,ag,EM ha⟩⟩|skip
   all_goals
    refine DW.aO aC aD [1,6,7,31] [1000] 3000 (fun z:Ev (y::acc).length=>[(0,fc 4000 1 (z.l.map fun n=>[AV.int .u8 n])),(32,i64 z.j)]) (fun z=>e_ 4000 1 (z.l.map fun n=>[AV.int .u8 n])) [(4000,.slot 0)] (fun z=>40 - z.j) (⟨0,y::acc,ag,by simpa using hl,ha⟩) ?_
    conv=>whnf
    refine⟨?_,fun z=>?_⟩
    . conv => whnf
      (exact gy)
    first|rw[aF (by(try simp only[length_cons] at *);omega) (by(try simp only[length_cons] at *);omega)] at h|skip
    obtain⟨zj,zl,zhl,zhj,zha⟩:=z;rcases zl with _|⟨w1,zl⟩
    . exact absurd zhl (by simp only[length_nil,length_cons];omega)
    . have zm := zhl
      simp only[length_cons] at zm
      try simp only[length_cons] at zhj
      refine zg ?_
      repeat' ((first|refine zf ?_|(refine Rq.mk (di 1 64 ag rfl rfl q9 ab) ?_)|(refine zp ?_ ?_<;>first|exact⟨⟩|intro h))<;>refine zg ?_)
      all_goals first|(refine⟨⟨zj+1,w1::(zl++[wr .u8 (jI s pos)]),th,tu,rW zha aa⟩,?_,rfl,?_⟩<;>first|((conv=>whnf);(exact gy);done)|(dsimp only;omega))|(refine⟨⟨zj+1,w1::(zl++[wr .u8 (wr .i32 (jI s pos - 32))]),th,tu,rW zha aa⟩,?_,rfl,?_⟩<;>first|((conv=>whnf);(exact gy);done)|(dsimp only;omega))|(refine⟨⟨pos+hU s pos,0,n,w1::zl,aa,aa,aa,zha,tt⟩,?_,rfl,?_⟩<;>first|((conv=>whnf);(exact gy);done)|(dsimp only;omega))|(refine⟨⟨pos+hU s pos,st,n,w1::zl,aa,aa,aa,zha,tt⟩,?_,rfl,?_⟩<;>first|((conv=>whnf);(exact gy);done)|(dsimp only;omega))
end Go.Ago
