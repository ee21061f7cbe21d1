/-
  Part B22: lemmas, each with its own conditions.
-/
import Derived.Test.YthaolifcglpkdaaGreatDoorB20
import Derived.Test.YthaolifcglpkdaaGreatDoorB21
set_option maxRecDepth 100000
set_option maxHeartbeats 0
set_option linter.all false
namespace Go.Ago
open Go.Proofs List Nat Tryz
attribute [local irreducible] bA bw aV bp bG wr aZ bF comp DC DP DW DV DY
theorem XL (s r:List UInt8)(j:s.length<281474976710656)(m:r.length<281474976710656):af 191 [.str s,.str r] (fun k=>∃a e:Int,k = .ret (.ao [i64 a,i64 e])):=by
 refine zw func191 ?_;refine zg ?_
 repeat' ((first|(refine zp ?_ ?_<;>intro h)|(refine DC.pure rfl (Rb _ j) ?_;rintro _ (rfl|⟨f,rfl,c⟩))|(refine DC.pure rfl (S7 f c r (by assumption)) ?_;rintro _ ⟨b,rfl,g,d⟩)|(refine DC.pure rfl (OJ b d (by intro e;subst e;have:=c.d1;simp at g;omega) (by have:=c.d1;omega)) ?_;rintro _ ⟨v,rfl⟩)|(refine DC.pure rfl (zaU f c b g) ?_;rintro _ ⟨n,o,rfl⟩)|(refine DC.pure rfl (zaV f c b g) ?_;rintro _ ⟨p,l,rfl⟩))<;>refine zg ?_)
 all_goals exact⟨_,_,rfl⟩
theorem Ti (s r:List UInt8)(n:s.length<281474976710656)(p:r.length<281474976710656):af 143 [.str s,.str r] (cc fun _=>True):=by
 refine zw func143 ?_
 conv=>whnf
 repeat' first
  | (refine Br.split (fun h=>?_) (fun h=>?_)<;>(try simp only[bz] at h)<;>(conv=>whnf))
  | (refine pM (fun h=>?_) (fun h=>?_)<;>(conv=>whnf))
  | (refine DC.pure rfl (Df _ n) ?_;rintro _ (rfl|⟨q,w,rfl⟩|⟨⟨o,i,l,c,g,d,k,j,first,f,t,m,x,y⟩,rfl,v⟩)<;>first|(obtain rfl:i=true:=v.num;conv=>whnf)|(conv=>whnf))
  | (refine DC.pure rfl (XL _ _ n p) ?_;rintro _ ⟨a,e,rfl⟩;conv=>whnf)
  | (refine DC.pure rfl (Tg ⟨_,aa⟩ ⟨r,p⟩) ?_;rintro _ ⟨b,rfl,-⟩;conv=>whnf)
 all_goals exact⟨_,rfl,trivial⟩
end Go.Ago
namespace Go.Ago
open Go.Proofs List Nat Tryz
theorem W9 (s:List UInt8)(a:s.length<281474976710656):af 188 [.str s] (eS fun _=>True):=Qe s a
theorem W_ (s r:List UInt8)(b:s.length<281474976710656)(a:r.length<281474976710656):af 143 [.str s,.str r] (cc fun _=>True):=Ti s r b a
theorem Xa (s:List UInt8)(h:s.length<281474976710656):af 236 [.str s] (fun f=>∃(a:List UInt8) (b:Bool) (c d e:Int) (g:Bool) (n:Int),f = .ret (.ao [.agg [.str a,.bool b,i64 c,i64 d,i64 e,.bool g],i64 n])):=Jz s h
end Go.Ago
section
namespace Go.Ago
open Go.Proofs List Nat Tryz
attribute [local irreducible] bA bw aV bp bG wr aZ bF comp DC DP DW DV
theorem FK (t:Ty):af 139 [t.av] (eS fun _=>True):=by
 refine zw func139 ?_;refine zg ?_
 repeat' ((first|(refine zp ?_ ?_<;>intro h)|(refine DC.pure rfl (UL _) ?_;rintro _ ⟨f,rfl,d⟩)|(refine DC.pure rfl (wT _) ?_;rintro _ ⟨e,rfl,c⟩)|(refine DC.pure rfl (W9 _ (by exact t.hp)) ?_;rintro _ ⟨g,rfl,b⟩))<;>refine zg ?_)
 all_goals exact⟨_,rfl,trivial⟩
attribute [local semireducible] DP in
theorem DP.ny {g:FuncId}{args:List AV}{p:Int->Prop}(h:af g args (eS p)):∃n,p n∧af g args (fun c=>c = .ret (i64 n)):=by
 obtain⟨_,h,n,rfl,b⟩:=h;exact⟨n,b,_,h,rfl⟩
noncomputable def ct (t:Ty):Int:=Classical.choose (DP.ny (FK t))
theorem oc (t:Ty):af 139 [t.av] (fun b=>b = .ret (i64 (ct t))):=(zbw (DP.ny (FK t))).2
attribute [local irreducible] ct
theorem UM (t:Ty):af 140 [t.av] (cc fun b=>b=true↔t.kind≠7∧ct t=0):=by
 have k1:=@oc;exact zw func140 W
theorem xl (t:Ty):af 101 [t.av] (cc fun b=>b=true↔t.kind≠7∧ct t=0):=by
 have k1:=@oc;exact zw func101 W
theorem wy (t:Ty):af 180 [t.av] (cc fun b=>b=true↔t.kind≠7∧ct t=0):=by
 have k1:=@oc;exact zw func180 W
theorem C6 (t:Ty):af 105 [t.av] (cc fun _=>True):=by
 have k1:=@xl;exact zw func105 W
theorem FG (t:Ty):af 152 [t.av] (cc fun _=>True):=by
 have k1:=@xl;exact zw func152 W
end Go.Ago
end
namespace Go.Ago
open Go.Proofs List Nat Tryz
attribute [local irreducible] bA bw aV bp bG wr aZ bF comp DC DP DW DV
theorem OW (s:List UInt8)(b:s.length<281474976710656):af 142 [.str s] (cc fun _=>True):=by
 refine zw func142 ?_
 conv=>whnf
 refine DW.aO aC aD [0,2,5] [] 0 (fun i:Nat=>[(6,i64 i)]) (fun _=>[]) [] (fun i=>s.length+1 - i) (0) ?_
 refine zl fun i=>?_
 refine zg ?_
 repeat' ((refine zp ?_ ?_<;>intro h)<;>refine zg ?_)
 all_goals first|exact⟨_,rfl,trivial⟩|exact zi (i+1)
theorem yZ (n lo:Int):af 177 [i64 n,i64 lo] (cc fun _=>True):=by
 have k1:=@kz;exact zw func177 W
theorem Lm (n m:Int):af 222 [i64 n,i64 m] (cc fun b=>b=true↔0≤n∧n≤wr .i64 (m - 1)):=by
 have k1:=@kz;exact zw func222 W
abbrev Z9:List AV:=([1,10,100,1000,10000,100000,1000000,10000000,100000000,1000000000,10000000000,100000000000,1000000000000,10000000000000,100000000000000,1000000000000000,10000000000000000,100000000000000000,1000000000000000000]:List Int).map fun n => .int .i64 n
def C1:Nat->Int|0=>1|n+1=>wr .i64 (C1 n * 10)
def Z8 (i:Nat):List AV:=(List.range 19).map fun j=>i64 (if j<i then C1 j else 0)
theorem Z_:af 237 [] (fun c=>c = .ret (.agg Z9)):=by
 refine zw func237 ?_
 conv=>whnf
 refine DW.aO aC aD [0] [0] 0 (fun i:{i:Nat // i≤19}=>[(3,i64 i.1),(1,i64 (C1 i.1))]) (fun i=>[(0,an.arr 19 [Z8 i.1])]) [] (fun i=>20 - i.1) (⟨0,ab⟩) ?_
 refine zl fun i=>?_
 rcases i with⟨i,b⟩
 match i,b with
 | 0, _ =>
   refine zg ?_
   repeat' ((refine zp ?_ ?_<;>first|exact⟨⟩|intro h)<;>refine zg ?_)
   all_goals exact zi ⟨1,ab⟩
 | 1, _ =>
   refine zg ?_
   repeat' ((refine zp ?_ ?_<;>first|exact⟨⟩|intro h)<;>refine zg ?_)
   all_goals exact zi ⟨2,ab⟩
 | 2, _ =>
   refine zg ?_
   repeat' ((refine zp ?_ ?_<;>first|exact⟨⟩|intro h)<;>refine zg ?_)
   all_goals exact zi ⟨3,ab⟩
 | 3, _ =>
   refine zg ?_
   repeat' ((refine zp ?_ ?_<;>first|exact⟨⟩|intro h)<;>refine zg ?_)
   all_goals exact zi ⟨4,ab⟩
 | 4, _ =>
   refine zg ?_
   repeat' ((refine zp ?_ ?_<;>first|exact⟨⟩|intro h)<;>refine zg ?_)
   all_goals exact zi ⟨5,ab⟩
 | 5, _ =>
   refine zg ?_
   repeat' ((refine zp ?_ ?_<;>first|exact⟨⟩|intro h)<;>refine zg ?_)
   all_goals exact zi ⟨6,ab⟩
 | 6, _ =>
   refine zg ?_
   repeat' ((refine zp ?_ ?_<;>first|exact⟨⟩|intro h)<;>refine zg ?_)
   all_goals exact zi ⟨7,ab⟩
 | 7, _ =>
   refine zg ?_
   repeat' ((refine zp ?_ ?_<;>first|exact⟨⟩|intro h)<;>refine zg ?_)
   all_goals exact zi ⟨8,ab⟩
 | 8, _ =>
   refine zg ?_
   repeat' ((refine zp ?_ ?_<;>first|exact⟨⟩|intro h)<;>refine zg ?_)
   all_goals exact zi ⟨9,ab⟩
 | 9, _ =>
   refine zg ?_
   repeat' ((refine zp ?_ ?_<;>first|exact⟨⟩|intro h)<;>refine zg ?_)
   all_goals exact zi ⟨10,ab⟩
 | 10, _ =>
   refine zg ?_
   repeat' ((refine zp ?_ ?_<;>first|exact⟨⟩|intro h)<;>refine zg ?_)
   all_goals exact zi ⟨11,ab⟩
 | 11, _ =>
   refine zg ?_
   repeat' ((refine zp ?_ ?_<;>first|exact⟨⟩|intro h)<;>refine zg ?_)
   all_goals exact zi ⟨12,ab⟩
 | 12, _ =>
   refine zg ?_
   repeat' ((refine zp ?_ ?_<;>first|exact⟨⟩|intro h)<;>refine zg ?_)
   all_goals exact zi ⟨13,ab⟩
 | 13, _ =>
   refine zg ?_
   repeat' ((refine zp ?_ ?_<;>first|exact⟨⟩|intro h)<;>refine zg ?_)
   all_goals exact zi ⟨14,ab⟩
 | 14, _ =>
   refine zg ?_
   repeat' ((refine zp ?_ ?_<;>first|exact⟨⟩|intro h)<;>refine zg ?_)
   all_goals exact zi ⟨15,ab⟩
 | 15, _ =>
   refine zg ?_
   repeat' ((refine zp ?_ ?_<;>first|exact⟨⟩|intro h)<;>refine zg ?_)
   all_goals exact zi ⟨16,ab⟩
 | 16, _ =>
   refine zg ?_
   repeat' ((refine zp ?_ ?_<;>first|exact⟨⟩|intro h)<;>refine zg ?_)
   all_goals exact zi ⟨17,ab⟩
 | 17, _ =>
   refine zg ?_
   repeat' ((refine zp ?_ ?_<;>first|exact⟨⟩|intro h)<;>refine zg ?_)
   all_goals exact zi ⟨18,ab⟩
 | 18, _ =>
   refine zg ?_
   repeat' ((refine zp ?_ ?_<;>first|exact⟨⟩|intro h)<;>refine zg ?_)
   all_goals exact zi ⟨19,ab⟩
 | 19, _ =>
   refine zg ?_
   repeat' ((refine zp ?_ ?_<;>first|exact⟨⟩|intro h)<;>refine zg ?_)
   all_goals kernel_rfl
 | n+20,h=>exact absurd h aa
theorem Qo (p:Int)(h:0≤p∧p≤18):∃n:Int,0≤n∧n<9223372036854775808∧chunk [AV.int IntKind.i64 1,AV.int IntKind.i64 10,AV.int IntKind.i64 100,AV.int IntKind.i64 1000,AV.int IntKind.i64 10000,AV.int IntKind.i64 100000,AV.int IntKind.i64 1000000,AV.int IntKind.i64 10000000,AV.int IntKind.i64 100000000,AV.int IntKind.i64 1000000000,AV.int IntKind.i64 10000000000,AV.int IntKind.i64 100000000000,AV.int IntKind.i64 1000000000000,AV.int IntKind.i64 10000000000000,AV.int IntKind.i64 100000000000000,AV.int IntKind.i64 1000000000000000,AV.int IntKind.i64 10000000000000000,AV.int IntKind.i64 100000000000000000,AV.int IntKind.i64 1000000000000000000] (p.toNat * o6.size) o6.size=some [.int .i64 n]:=by
 obtain⟨k,rfl⟩:=zbW h.1;have a:k<19:=aa
 match k,a with
 | 0,_=>exact⟨1,ab,ab,rfl⟩
 | 1,_=>exact⟨10,ab,ab,rfl⟩
 | 2,_=>exact⟨100,ab,ab,rfl⟩
 | 3,_=>exact⟨1000,ab,ab,rfl⟩
 | 4,_=>exact⟨10000,ab,ab,rfl⟩
 | 5,_=>exact⟨100000,ab,ab,rfl⟩
 | 6,_=>exact⟨1000000,ab,ab,rfl⟩
 | 7,_=>exact⟨10000000,ab,ab,rfl⟩
 | 8,_=>exact⟨100000000,ab,ab,rfl⟩
 | 9,_=>exact⟨1000000000,ab,ab,rfl⟩
 | 10,_=>exact⟨10000000000,ab,ab,rfl⟩
 | 11,_=>exact⟨100000000000,ab,ab,rfl⟩
 | 12,_=>exact⟨1000000000000,ab,ab,rfl⟩
 | 13,_=>exact⟨10000000000000,ab,ab,rfl⟩
 | 14,_=>exact⟨100000000000000,ab,ab,rfl⟩
 | 15,_=>exact⟨1000000000000000,ab,ab,rfl⟩
 | 16,_=>exact⟨10000000000000000,ab,ab,rfl⟩
 | 17,_=>exact⟨100000000000000000,ab,ab,rfl⟩
 | 18,_=>exact⟨1000000000000000000,ab,ab,rfl⟩
theorem Pb (t:Ty)(h:0≤t.p∧t.p≤31∧(t.kind=1->t.p≤9)):af 189 [t.av] (eS fun _=>True):=by
 refine zw func189 ?_;refine zg ?_
 repeat' ((first|(refine zp ?_ ?_<;>intro h)|(refine zh rfl (Z_) ?_;rintro _ rfl)|(obtain⟨m,c,d,b⟩:=Qo t.p aa;rw[b])|refine zo ?_)<;>refine zg ?_)
 all_goals exact⟨_,rfl,trivial⟩
theorem R_ (v:Vl)(t:Ty):af 141 [v.av,t.av] (eS fun _=>True):=by
 refine zw func141 ?_;refine zg ?_
 repeat' ((first|(refine zp ?_ ?_<;>intro h)|(refine DC.pure rfl (wT _) ?_;rintro _ ⟨d,rfl,a⟩)|(refine DC.pure rfl (Pb _ (by have:=a bD;omega)) ?_;rintro _ ⟨e,rfl,c⟩))<;>refine zg ?_)
 all_goals exact⟨_,rfl,trivial⟩
theorem zaT {n:Int}(h:0≤n∧n≤100000):wr .i64 ((wr .i64 (wr .i64 (n+64) - 1)).tdiv 64)=(((n.toNat+63) / 64:Nat):Int):=by
 rw[aE (n:=n+64) aa aa,aE (n:=n+64 - 1) aa aa,Int.tdiv_eq_ediv_of_nonneg aa,aE aa aa];omega
theorem Wa (n:Int)(h:0≤n∧n≤100000):cM 78 [i64 n] .nil 0 (fun c H' _=>c = .ret (.ay 5 0 ((n.toNat+63) / 64) 1)∧H'.get 5=some (.arr 1 (replicate ((n.toNat+63) / 64) [.int .u64 0]))):=by
 refine zd func78 ?_;have e:=zaT h;have d:(n.toNat+63) / 64≤2000:=aa
 conv=>whnf
 try rw[e]
 generalize (n.toNat+63) / 64=m at d
 refine Rq.mk rfl ?_;refine Rq.mk ?_ ?_
 . have b : (Ea.bytes : Int) = 8 := rfl
   simp only[zbe,zbz,b];exact⟨⟨⟨⟨aa,aa⟩,aa⟩,aa⟩,rfl⟩
 conv=>whnf
 conv=>whnf
 rw[zbt];exact⟨rfl,rfl⟩
theorem wA (t:Ty)(v:Vl):af 102 [t.av,v.av] (eS fun _=>True):=by
 refine zw func102 ?_;refine zg ?_
 repeat' ((first|(refine zp ?_ ?_<;>first|exact⟨⟩|intro h)|(refine DC.pure rfl (UM _) ?_;rintro _ ⟨f,rfl,d⟩)|(refine DC.pure rfl (R_ _ _) ?_;rintro _ ⟨i,rfl,c⟩)|(refine DC.pure rfl (OW _ v.hs) ?_;rintro _ ⟨g,rfl,e⟩)|(refine DC.pure rfl (W_ _ _ t.hp v.hs) ?_;rintro _ ⟨j,rfl,b⟩))<;>refine zg ?_)
 all_goals exact⟨_,rfl,trivial⟩
theorem DG (t:Ty):af 220 [t.av] (eS fun n=>ct t=0->(t.kind=2->n=16∨n=32)∧(t.kind=6->n=32)):=by
 refine zw func220 ?_;refine zg ?_
 repeat' ((first|(refine zp ?_ ?_<;>intro h)|(refine DC.pure rfl (oc _) ?_;rintro _ rfl)|(refine DC.pure rfl (Xa _ t.hp) ?_;rintro _ ⟨c,d,e,f,g,i,b,rfl⟩))<;>refine zg ?_)
 all_goals exact⟨_,rfl,by intro _;constructor<;>intro _<;>omega⟩
theorem R6 (l:BL Int):af 247 [.ak 1 (l.l.map fun n=>[i64 n])] (eS fun _=>True):=by
 refine zw func247 ?_;have b:=l.h
 conv=>whnf
 refine DW.aO aC aD [2,5,6] [] 0 (fun i:Nat=>[(7,i64 i)]) (fun _=>[]) [] (fun i=>l.l.length+1 - i) (0) ?_
 refine zl fun i=>?_
 refine zg ?_
 repeat' ((refine zp ?_ ?_<;>intro h)<;>refine zg ?_)
 all_goals first|exact⟨_,rfl,trivial⟩|exact zi (i+1)
theorem Z3 {α:Type}{p:α->Prop}{l:List α}{i:Nat}(h:∀u∈l.take i,p u)(hi:i<l.length)(a:p l[i]):∀u∈l.take (i+1),p u:=by
 rw[zbi hi] at *
 grind
theorem Z2 {α:Type}{p:α->Prop}{l:List α}{i:Nat}(h:∀u∈l.take i,p u)(hi:l.length≤i):∀u∈l,p u:=by
 rwa [zbj hi] at h
theorem KG (t:Ty)(l:BL Ty):af 248 [t.av,iL l.l] (eS fun n=>n=0->∀u∈l.l,u.kind=t.kind):=by
 refine zw func248 ?_;have c:=l.h
 conv=>whnf
 refine DW.aO aC aD [2,4,7,8] [] 0 (fun i:{i:Nat // ∀u∈l.l.take i,u.kind=t.kind}=>[(9,i64 i.1)]) (fun _=>[]) [] (fun i=>l.l.length+1 - i.1) (⟨0,ag⟩) ?_
 refine zl fun i=>?_
 refine zg ?_
 repeat' ((refine zp ?_ ?_<;>intro h)<;>refine zg ?_)
 all_goals first|exact⟨_,rfl,fun b=>absurd b ab⟩|exact⟨_,rfl,fun _=>Z2 i.2 aa⟩|exact zi ⟨i.1+1,Z3 i.2 aa bD⟩
theorem CE (s:BL UInt8):af 179 [.str s.l] (cc fun _=>True):=by
 refine zw func179 ?_;have c:=s.h
 conv=>whnf
 refine DW.aO aC aD [0,2,6,7] [] 0 (fun i:Nat=>[(8,i64 i)]) (fun _=>[]) [] (fun i=>s.l.length+1 - i) (0) ?_
 refine zl fun i=>?_
 refine zg ?_
 repeat' ((first|(refine zp ?_ ?_<;>intro h)|(refine DC.pure rfl (kz _ _ _) ?_;rintro _ ⟨d,rfl,b⟩))<;>refine zg ?_)
 all_goals first|exact⟨_,rfl,trivial⟩|exact zi (i+1)
theorem Zz (p:cQ):af 131 [p.av] (eS fun _=>True):=by
 refine zw func131 ?_;have b:=p.procs.h
 conv=>whnf
 refine DW.aO aC aD [2,7,8] [] 0 (fun i:Nat×Int=>[(9,i64 i.1),(3,i64 i.2)]) (fun _=>[]) [] (fun i=>p.procs.l.length+1 - i.1) (⟨0,0⟩) ?_
 refine zl fun i=>?_
 refine zg ?_
 repeat' ((refine zp ?_ ?_<;>intro h)<;>refine zg ?_)
 all_goals first|exact⟨_,rfl,trivial⟩|exact zi ((i.1+1,_))
theorem EU (t:Ty):af 219 [t.av] (eS fun n=>ct t=0->n=1∨n=8∨n=16∨n=32∨n=64):=by
 have k1:=@oc;have k2:=@DG;exact zw func219 W
theorem HX (l:BL iR)(bits:Int):af 178 [nj l.l,i64 bits] (cc fun _=>True):=by
 refine zw func178 ?_;have f:=l.h
 conv=>whnf
 refine DW.aO aC aD [1,4,7,8] [] 0 (fun i:Nat=>[(9,i64 i)]) (fun _=>[]) [] (fun i=>l.l.length+1 - i) (0) ?_
 refine zl fun i=>?_
 refine zg ?_
 repeat' ((first|(refine Rq.mk (by(first|rfl|((try simp only[rz]);((have k:=b (a.1 bD).2;omega))))) ?_)|(refine zb ?_ ?_<;>(intro h))|(refine zh rfl (wy _) ?_;rintro _ ⟨g,rfl,a⟩)|(refine zh rfl (wA _ _) ?_;rintro _ ⟨j,rfl,e⟩)|(refine zh rfl (EU _) ?_;rintro _ ⟨m,rfl,b⟩)|(refine zh rfl (DG _) ?_;rintro _ ⟨n,rfl,d⟩))<;>refine zg ?_)
 all_goals first|exact⟨_,rfl,trivial⟩|exact zi (i+1)
theorem jU (e:Int):af 129 [.bool true,i64 e] (fun b=>b = .ret (.ao [])):=by
 refine zw func129 ?_;rfl
theorem jT (e:Int):af 129 [.bool false,i64 e] (fun b=>b = .aU (Es e)):=by
 refine zw func129 ?_
 conv=>whnf
theorem Sw (p:cQ):af 132 [p.av] (oW (1≤p.procs.l.length∧p.procs.l.length≤64)):=by
 have k:=p.files.h;have n:=p.conds.h;have o:=p.dv.h;refine zw func132 ?_;refine zg ?_
 repeat' ((first|(refine zp ?_ ?_<;>intro h)|(refine DC.pure rfl (jU _) ?_;rintro _ rfl)|(refine DC.pure rfl (jT _) ?_;rintro _ rfl)|(refine DC.pure rfl (kz _ _ _) ?_;rintro _ ⟨g,rfl,c⟩)|(refine DC.pure rfl (yZ _ _) ?_;rintro _ ⟨e,rfl,b⟩)|(refine DC.pure rfl (HX _ _) ?_;rintro _ ⟨m,rfl,f⟩))<;>refine zg ?_)
 all_goals first|exact .inr ⟨_,rfl,ab⟩|skip
 refine DW.aO aC aD [1,43,44] [] 0 (fun i:Nat=>[(45,i64 i)]) (fun _=>[]) [] (fun i=>p.files.l.length+1 - i) (0) ?_
 refine zl fun i=>?_
 refine zg ?_
 repeat' ((first|(refine zp ?_ ?_<;>intro h)|(refine DC.pure rfl (jU _) ?_;rintro _ rfl)|(refine DC.pure rfl (jT _) ?_;rintro _ rfl)|(refine DC.pure rfl (kz _ _ _) ?_;rintro _ ⟨g,rfl,c⟩)|(refine DC.pure rfl (CE _) ?_;rintro _ ⟨j,rfl,a⟩))<;>refine zg ?_)
 all_goals first|exact .inr ⟨_,rfl,ab⟩|exact zi (i+1)|skip
 refine DW.aO aC aD [1,60,61] [] 0 (fun i:Nat=>[(62,i64 i)]) (fun _=>[]) [] (fun i=>p.conds.l.length+1 - i) (0) ?_
 refine zl fun i=>?_
 refine zg ?_
 repeat' ((first|(refine zp ?_ ?_<;>intro h)|(refine DC.pure rfl (jU _) ?_;rintro _ rfl)|(refine DC.pure rfl (jT _) ?_;rintro _ rfl)|(refine DC.pure rfl (CE _) ?_;rintro _ ⟨j,rfl,a⟩))<;>refine zg ?_)
 all_goals first|exact .inr ⟨_,rfl,ab⟩|exact zi (i+1)|skip
 refine DW.aO aC aD [71,72] [] 0 (fun i:Nat=>[(73,i64 i)]) (fun _=>[]) [] (fun i=>p.dv.l.length+1 - i) (0) ?_
 refine zl fun i=>?_
 refine zg ?_
 repeat' ((first|(refine zp ?_ ?_<;>intro h)|(refine DC.pure rfl (jU _) ?_;rintro _ rfl)|(refine DC.pure rfl (jT _) ?_;rintro _ rfl)|(refine DC.pure rfl (yZ _ _) ?_;rintro _ ⟨e,rfl,b⟩))<;>refine zg ?_)
 all_goals first|exact .inr ⟨_,rfl,ab⟩|exact zi (i+1)|skip
 all_goals exact .inl ⟨rfl,by simp_all;omega⟩
theorem Xr (p:cQ):af 133 [p.av] (oW (jt p.procs.l)):=by
 have t:=p.procs.h;refine zw func133 ?_
 conv=>whnf
 refine DW.aO aC aD [5,6] [] 0 (fun i:{i:Nat // tR p.procs.l i}=>[(7,i64 i.1)]) (fun _=>[]) [] (fun i=>p.procs.l.length+1 - i.1) (⟨0,fun _ _ h=>absurd h aa⟩) ?_
 refine zl fun i=>?_
 refine zg ?_
 repeat' ((first|(refine zp ?_ ?_<;>first|exact⟨⟩|intro h)|(refine DC.pure rfl (jU _) ?_;rintro _ rfl)|(refine DC.pure rfl (jT _) ?_;rintro _ rfl)|(refine DC.pure rfl (kz _ _ _) ?_;rintro _ ⟨r,rfl,d⟩)|(refine DC.pure rfl (yZ _ _) ?_;rintro _ ⟨o,rfl,e⟩)|(refine DC.pure rfl (HX _ _) ?_;rintro _ ⟨s,rfl,c⟩)|(refine DC.pure rfl (CE _) ?_;rintro _ ⟨n,rfl,b⟩)|(refine DC.pure rfl (wy _) ?_;rintro _ ⟨q,rfl,g⟩))<;>refine zg ?_)
 all_goals first|exact .inr ⟨_,rfl,ab⟩|refine zi ⟨i.1+1,i.2.succ aa ?_⟩|skip
 all_goals first
  | exact .inl ⟨rfl,fun k f h=>i.2 k f aa⟩
  | exact⟨fun _=>by assumption,fun j=>absurd aa j,aa,aa,aa⟩
  | (have m : wr .i64 ((i.1:Int) - 1) = (i.1:Int) - 1 := aE aa aa
     simp_all[Ac]<;>omega)
theorem W3 {l:List eG}(h:jt l){n:Int}(b:0≤n∧n<l.length):(l[n.toNat]'aa).parent<n∧-1≤(l[n.toNat]'aa).parent:=by
 have:=h n.toNat aa aa;obtain⟨c,d,_⟩:=this
 grind
theorem Eh (p:cQ)(e:jt p.procs.l)(a b:Int)(d:a<p.procs.l.length):af 223 [p.av,i64 a,i64 b] (eS fun n=>True):=by
 refine zw func223 ?_
 conv=>whnf
 refine DW.aO aC aD [2,3,6] [] 0 (fun i:{i:Int×Int // i.1<p.procs.l.length}=>[(1,i64 i.1.1),(7,i64 i.1.2)]) (fun _=>[]) [] (fun i=>(i.1.1+1).toNat) (⟨(a,0),d⟩) ?_
 refine zl fun i=>?_
 refine zg ?_
 repeat' ((refine zp ?_ ?_<;>intro h)<;>refine zg ?_)
 all_goals first|exact⟨_,rfl,trivial⟩|(have f:=W3 e (n:=i.1.1) aa;refine⟨⟨((p.procs.l[i.1.1.toNat]'aa).parent,_),?_⟩,(by(conv=>whnf);(exact o8)),rfl,?_⟩<;>dsimp only<;>omega)
theorem tf (n lo hi:Int):af 130 [i64 n,i64 lo,i64 hi] (jV (lo≤n∧n≤hi)):=(kz n _ _).dec
theorem o4 (n:Int)(m:Nat)(a:m<281474976710656):af 222 [i64 n,i64 m] (jV (0≤n∧n<m)):=by
 have h:=(Lm n m).dec;rw[aE aa aa] at h
 grind
theorem KL (p:cQ)(f:jt p.procs.l)(a b:Int)(g:a<p.procs.l.length):af 251 [p.av,i64 a,i64 b] (cc fun x=>x=true->1≤b∧b<p.procs.l.length):=by
 refine zw func251 ?_;have j:=p.procs.h;have i:wr .i64 ((p.procs.l.length:Int) - 1)=(p.procs.l.length:Int) - 1:=aE aa aa;refine zg ?_
 repeat' ((first|(refine zp ?_ ?_<;>intro h)|(refine zh rfl (tf _ _ _) ?_;rintro _ (⟨rfl,c⟩|⟨rfl,c⟩)<;>simp only[i,zba] at c)|(refine zh rfl (Eh _ f _ _ g) ?_;rintro _ ⟨k,rfl,e⟩))<;>refine zg ?_)
 all_goals first|exact⟨_,rfl,fun _=>aa⟩|exact⟨_,rfl,fun h=>by cases h⟩
theorem GW (c:Ck)(n k:Int):af 226 [c.av,i64 n,i64 k] (cc fun _=>True):=by
 refine zw func226 ?_;have j:=c.p.procs.h;have e:=c.ar.h;have f:=c.p.files.h;have d:=c.p.dv.h;have g:=c.p.conds.h;have i:=c.fQ;refine zg ?_
 repeat' ((first|(refine zp ?_ ?_<;>intro h)|(refine DC.pure rfl (o4 _ _ mD) ?_;rintro _ (⟨rfl,a⟩|⟨rfl,a⟩)<;>simp only[zba] at a))<;>refine zg ?_)
 all_goals exact⟨_,rfl,trivial⟩
theorem PI (c:Ck)(n k:Int):af 225 [c.av,i64 n,i64 k] (cc fun _=>True):=by
 refine zw func225 ?_;have o:=c.p.procs.h;have e:=c.ar.h;have f:=c.p.files.h;have g:=c.p.dv.h;have i:=c.p.conds.h;have j:=c.fQ;refine zg ?_
 repeat' ((first|(refine zp ?_ ?_<;>intro h)|(refine DC.pure rfl (o4 _ _ mD) ?_;rintro _ (⟨rfl,a⟩|⟨rfl,a⟩)<;>simp only[zba] at a)|(refine DC.pure rfl (GW _ _ _) ?_;rintro _ ⟨m,rfl,l⟩)|(refine DC.pure rfl (kz _ _ _) ?_;rintro _ ⟨q,rfl,d⟩))<;>refine zg ?_)
 all_goals exact⟨_,rfl,trivial⟩
theorem JF (c:Ck)(q n:Int)(j:0≤q∧q<c.p.procs.l.length):af 221 [c.av,i64 q,i64 n] (cc fun _=>True):=by
 refine zw func221 ?_;have k:=c.p.procs.h;have f:=c.ar.h;have d:=c.p.files.h;have e:=c.p.dv.h;have g:=c.p.conds.h;have i:=c.fQ;refine zg ?_
 repeat' ((first|(refine zp ?_ ?_<;>intro h)|(refine DC.pure rfl (kz _ _ _) ?_;rintro _ ⟨m,rfl,b⟩))<;>refine zg ?_)
 all_goals exact⟨_,rfl,trivial⟩
theorem Z4 (c:Ck)(n r k:Int):af 224 [c.av,i64 n,i64 r,i64 k] (cc fun _=>True):=by
 refine zw func224 ?_;have m:=c.p.procs.h;have j:=c.ar.h;have g:=c.p.files.h;have e:=c.p.dv.h;have i:=c.p.conds.h;have b:=c.fQ;refine zk ?_
 repeat' ((first|(refine Rq.mk (by(first|rfl|((try simp only[rz]);((have f:=a bD;omega))))) ?_)|(refine zp ?_ ?_<;>intro h)|(refine az.mk _ (dA (by((have f:=a bD;omega)))) ?_)|(refine zh rfl (KL _ c.hp _ _ b.2) ?_;rintro _ ⟨l,rfl,a⟩))<;>refine zk ?_)
 all_goals exact⟨_,rfl,trivial⟩
theorem Jo {d:Nat}(l:BL (List AV))(a:∀x∈l.l,cP d x)(k:Int):af 232 [.ak 11 l.l,i64 k] (cc fun _=>True):=by
 refine zw func232 ?_;have o:=l.h
 conv=>whnf
 refine DW.aO aC aD [1,4,7,8] [] 0 (fun i:Nat=>[(9,i64 i)]) (fun _=>[]) [] (fun i=>l.l.length+1 - i) (0) ?_
 refine zl fun i=>?_
 refine zk ?_
 repeat' ((first|(refine zp ?_ ?_<;>intro h)|(obtain⟨g,t,v,m,p,j,c,f,e⟩:=CX a (n:=(i:Int)) aa;refine az.mk _ c ?_;clear c))<;>refine zk ?_)
 all_goals first|exact⟨_,rfl,trivial⟩|exact zi (i+1)
theorem Ih {f:List AV->Prop}(l:BL (List AV))(a:∀x∈l.l,j8 f x)(k:Int):af 233 [.ak 11 l.l,i64 k] (cc fun _=>True):=by
 refine zw func233 ?_;have g:=l.h
 conv=>whnf
 refine DW.aO aC aD [1,4,7,8] [] 0 (fun i:Nat=>[(9,i64 i)]) (fun _=>[]) [] (fun i=>l.l.length+1 - i) (0) ?_
 refine zl fun i=>?_
 refine zk ?_
 repeat' ((first|(refine zp ?_ ?_<;>intro h)|(obtain⟨q,r,j,m,o,p,t,c,e,d⟩:=qv a (n:=(i:Int)) aa;refine az.mk _ c ?_;clear c))<;>refine zk ?_)
 all_goals first|exact⟨_,rfl,trivial⟩|exact zi (i+1)
theorem Xt:af 261 [] (fun b=>b = .ret (.agg [i64 6,i64 0,i64 0,.bool false,.str []])):=by
 refine zw func261 ?_;rfl
theorem OT (p:Int):af 262 [i64 p] (fun b=>b = .ret (.agg [i64 2,i64 p,i64 0,.bool false,.str []])):=by
 refine zw func262 ?_
 conv=>whnf
theorem zaK (p:Int):af 263 [i64 p] (fun b=>b = .ret (.agg [i64 3,i64 p,i64 0,.bool true,.str []])):=by
 refine zw func263 ?_
 conv=>whnf
theorem E9:af 194 [] (fun b=>b = .ret (.agg [i64 4,i64 1,i64 0,.bool false,.str []])):=by
 refine zw func194 ?_;rfl
theorem PJ (l:BL Fm)(n:Int):af 227 [l_ l.l,i64 n] (cc fun _=>True):=by
 refine zw func227 ?_;have c:=l.h
 conv=>whnf
 refine DW.aO aC aD [0,1,4,8,9] [] 0 (fun i:Nat×Int=>[(10,i64 i.1),(5,i64 i.2)]) (fun _=>[]) [] (fun i=>l.l.length+1 - i.1) (⟨0,0⟩) ?_
 refine zl fun i=>?_
 refine zg ?_
 repeat' ((first|(refine zp ?_ ?_<;>first|exact⟨⟩|intro h)|(refine DC.pure rfl (kz _ _ _) ?_;rintro _ ⟨d,rfl,b⟩)|(refine DC.pure rfl (oc ⟨5,0,0,false,_,l.l[i.1].eA.h⟩) ?_;rintro _ rfl))<;>refine zg ?_)
 all_goals first|exact⟨_,rfl,trivial⟩|exact zi ((i.1+1,_))
theorem Tj (c:Ck)(u:Int):af 259 [c.av,i64 u] (fun b=>(∃q:eG,b = .ret (.ao [q.av,.bool true]))∨b = .ret (.ao [.agg [.str [],i64 0,i64 0,i64 0,.ai,.ai,.ai],.bool false])):=by
 refine zw func259 ?_;have l:=c.p.procs.h;have f:=c.ar.h;have g:=c.p.files.h;have e:=c.p.dv.h;have j:=c.p.conds.h;have i:=c.fQ;refine zk ?_
 repeat' ((first|(refine Rq.mk (by(first|rfl|((try simp only[rz]);((have k:=c.HC _ (za9 (n:=u.toNat) aa);omega))))) ?_)|(refine az.mk _ (dA (by(first|omega|(have k:=c.HC _ (za9 (n:=u.toNat) aa);omega)))) ?_)|(refine DC.pure rfl (o4 _ _ mD) ?_;rintro _ (⟨rfl,a⟩|⟨rfl,a⟩)<;>simp only[zba] at a))<;>refine zk ?_)
 all_goals first|exact .inr rfl|exact .inl ⟨_,rfl⟩
end Go.Ago
namespace Go.Ago
open Go.Proofs List Nat Tryz
attribute [local irreducible] bA bw aV bp bG wr aZ bF comp DC DP DW DV DY
theorem TP (b u n o:Int)(p s:BL (List AV))(t:Ty):af 328 [.agg [i64 b,i64 u,i64 n,i64 o,.ak 11 p.l,.ak 14 s.l,i64 t.kind,i64 t.p,i64 t.q,.bool t.fz,.str t.eA]] (fun c=>c = .ret (.fn (.func 344) [] [.bm [i64 b,i64 u,i64 n,i64 o,.ak 11 p.l,.ak 14 s.l,i64 t.kind,i64 t.p,i64 t.q,.bool t.fz,.str t.eA]])):=by
 refine zw func328 ?_;rfl
theorem W4 (r l:BL (List AV)):af 299 [.ak 11 r.l,.ak 11 l.l] (fun b=>b = .ret (.fn (.func 327) [] [.bm [.ak 11 r.l],.bm [.ak 11 l.l]])):=by
 refine zw func299 ?_
 conv=>whnf
theorem Qk (b:Int)(t:Ty)(v:Vl)(m:Int)(l r:BL (List AV)):af 260 [.agg [i64 b,i64 t.kind,i64 t.p,i64 t.q,.bool t.fz,.str t.eA,i64 v.n,.str v.s,i64 m,.ak 11 l.l,.ak 11 r.l]] (fun c=>c = .ret (.fn (.func 327) [] [.bm [.ak 11 r.l],.bm [.ak 11 l.l]])):=by
 have k1:=W4 r l;exact zw func260 W
end Go.Ago
namespace Go.Ago
open Go.Proofs List Nat Tryz
attribute [local irreducible] bA bw aV bp bG wr aZ bF comp DC DP DW DV
theorem zan {d:Nat}(l:BL (List AV))(c:∀x∈l.l,cP d x)(p:l.l.length≤1000):af 264 [.ak 11 l.l] (fun r=>∃ts:List Ty,ts.length≤l.l.length∧r = .ret (bif ts.isEmpty then .ai else iL ts)):=by
 have w:=l.h;refine zw func264 ?_
 conv=>whnf
 refine DW.aO aC aD [0,6,7] [] 2000 (fun i:{i:Nat×List Ty // i.2.length≤i.1∧i.1≤l.l.length}=>[(8,i64 i.1.1),(3,fu 1000 5 (i.1.2.map Ty.cells))]) (fun i=>fq 1000 5 (i.1.2.map Ty.cells)) [(1000,.slot 3)] (fun i=>l.l.length+1 - i.1.1) (⟨(0,[]),zbm _,zbq _⟩) ?_
 refine zl fun i=>?_
 rcases i with⟨⟨i,_|⟨y,a⟩⟩,k⟩
 . conv => whnf
   repeat' ((first|refine Br.f (b:=beq _ _) rfl ?_|refine Rq.mk kW ?_|refine Br.split (fun h=>?_) (fun h=>?_)<;>(try simp only[hY,B_,zba,zbd,zbp,mZ,wO,Cr,Cq,Cv,Cu,zb4,zde] at h)|(obtain⟨u,t,v,m,q,s,e,j,g⟩:=CX c (n:=(i:Int)) aa;refine az.mk _ e ?_;clear e))<;>conv=>whnf)
   all_goals first|exact⟨[],zbq _,rfl⟩|exact zi ⟨(i+1,[t]),(by simp only[zbd,zbp];omega)⟩
 . conv => whnf
   repeat' ((first|refine Br.f (b:=beq _ _) rfl ?_|refine Rq.mk (eP 48 1000 ag rfl rfl (by simp only[zbd,zba] at k ⊢;omega) ab) ?_|refine Rq.mk kW ?_|refine Br.split (fun h=>?_) (fun h=>?_)<;>(try simp only[hY,B_,zba,zbd,zbp,mZ,wO,Cr,Cq,Cv,Cu,zb4,zde] at h)|(obtain⟨u,t,v,m,q,s,e,j,g⟩:=CX c (n:=(i:Int)) aa;refine az.mk _ e ?_;clear e))<;>conv=>whnf)
   all_goals first
    | (refine⟨⟨(i+1,y::(a++[t])),(by simp only[zbd,zbk,zbp] at k ⊢;omega)⟩,(by(conv=>whnf);(repeat' first|exact True.intro|apply And.intro|rfl|exact dX aB aB ag aB|exact e_ aB (gM (f:=Ty.cells) (fun _=>by rfl) aB ag)|exact c_ (f:=Ty.cells) (fun _=>by rfl)|(refine cw ?_ ?_ ?_<;>(try dsimp only)<;>omega))),rfl,vA⟩)
    | (erw [vm (f := Ty.cells) (fun _ => by rfl) aB]; conv => whnf
       exact⟨y::a,(by simp only[zbd] at k ⊢;omega),rfl⟩)
attribute [local semireducible] DP in
theorem DP.norm {g:FuncId}{args:List AV}{α:Type}{f:α->List AV}{sz:Nat}{p:List α->Prop}(h:af g args (fun d=>∃l:List α,d = .ret (bif l.isEmpty then .ai else .ak sz (l.map f))∧p l)):af g args (fun d=>∃l:List α,d = .ret (.ak sz (l.map f))∧p l):=by
 obtain⟨_,h,l,rfl,j⟩:=h;cases l with
 | nil =>
   refine⟨.ret _,⟨h.1,fun c w y t n o=>(h.2 c w _ t n o).mono ?_⟩,[],rfl,j⟩
   rintro e z ⟨u,_,s,q,r,k,rfl⟩
   refine⟨u,_,s,q,r,?_,rfl⟩;cases e with
   | returned v=>cases k;exact .fh _
   | _=>exact k.elim
 | cons x l=>exact⟨_,h,x::l,rfl,j⟩
theorem zam {d:Nat}(l:BL (List AV))(b:∀x∈l.l,cP d x)(a:l.l.length≤1000):af 264 [.ak 11 l.l] (fun c=>∃ts:BL Ty,c = .ret (iL ts.l)):=by
 refine(DP.norm (f:=Ty.cells) (sz:=5) (p:=fun ts=>ts.length≤l.l.length) ((zan l b a).mono ?_)).mono ?_
 . grind
 rintro _ ⟨ts,rfl,h⟩;exact⟨⟨ts,aa⟩,rfl⟩
theorem Vf (l:BL Ty)(s:List UInt8):af 250 [iL l.l,.str s] (cc fun b=>b=true->l.l.length=s.length):=by
 refine zw func250 ?_;have f:=l.h;refine zg ?_
 repeat' ((refine zp ?_ ?_<;>intro h)<;>refine zg ?_)
 all_goals first|exact⟨_,rfl,fun h=>absurd h ab⟩|skip
 refine DW.aO aC aD [1,4,12,13] [] 0 (fun i:Nat=>[(14,i64 i)]) (fun _=>[]) [] (fun i=>l.l.length+1 - i) (0) ?_
 refine zl fun i=>?_
 refine zg ?_
 repeat' ((first|(refine zp ?_ ?_<;>intro h)|(refine DC.pure rfl (Qb _) ?_;rintro _ ⟨j,rfl,e⟩)|(refine DC.pure rfl (OY _) ?_;rintro _ ⟨g,rfl,d⟩)|(refine DC.pure rfl (TZ _) ?_;rintro _ ⟨k,rfl,c⟩))<;>refine zg ?_)
 all_goals first|exact⟨_,rfl,fun h=>absurd h ab⟩|exact⟨_,rfl,fun _=>aa⟩|exact zi (i+1)
theorem T5 {k p q:Int}{v:Bool}{s:List UInt8}(h:s.length<281474976710656):∃t:Ty,AE.ret (.agg [.int .i64 k,.int .i64 p,.int .i64 q,.bool v,.str s])=AE.ret t.av:=⟨⟨k,p,q,v,s,h⟩,rfl⟩
theorem H9 {k p q e:Int}{v:Bool}{s:List UInt8}(h:s.length<281474976710656):∃(t:Ty) (a:Int),AE.ret (.ao [.agg [.int .i64 k,.int .i64 p,.int .i64 q,.bool v,.str s],.int .i64 e])=AE.ret (.ao [t.av,i64 a]):=⟨⟨k,p,q,v,s,h⟩,e,rfl⟩
theorem GM (f:Int)(a b:Ty):af 249 [i64 f,a.av,b.av] (fun e=>∃t:Ty,e = .ret t.av):=by
 refine zw func249 ?_;have g:=a.hp;have i:=b.hp;refine zg ?_
 repeat' ((first|(refine zp ?_ ?_<;>intro h)|(refine DC.pure rfl (IX _) ?_;rintro _ ⟨j,rfl,d⟩))<;>refine zg ?_)
 all_goals exact T5 (ab)
theorem NW (g:Int)(a b:Ty):af 195 [i64 g,a.av,b.av] (fun n=>∃(t:Ty) (e:Int),n = .ret (.ao [t.av,i64 e])):=by
 refine zw func195 ?_;have i:=a.hp;have k:=b.hp;refine zg ?_
 repeat' ((first|(refine zp ?_ ?_<;>intro h)|(refine DC.pure rfl (WS _) ?_;rintro _ ⟨o,q,rfl⟩)|(refine zh rfl (wT a) ?_;rintro _ ⟨p,rfl,l⟩)|(refine zh rfl (wT b) ?_;rintro _ ⟨r,rfl,j⟩)|(refine DV.flat rfl (KG a ⟨[b],by(show 1<_;decide)⟩) ?_;rintro _ ⟨m,rfl,c⟩<;>refine⟨_,rfl,rfl,?_⟩)|(refine DV.flat rfl (KG a ⟨[a],by(show 1<_;decide)⟩) ?_;rintro _ ⟨m,rfl,c⟩<;>refine⟨_,rfl,rfl,?_⟩)|(refine DV.flat rfl (R6 ⟨[_,_,_],by(show 3<_;decide)⟩) ?_;rintro _ ⟨s,rfl,f⟩<;>refine⟨_,rfl,rfl,?_⟩)|(refine DC.pure rfl (GM _ a b) ?_;rintro _ ⟨t,rfl⟩)|(refine DC.pure rfl (GM _ a a) ?_;rintro _ ⟨t,rfl⟩))<;>refine zg ?_)
 all_goals first|exact⟨t,_,rfl⟩|exact H9 (ab)
end Go.Ago
namespace Go.Ago
open Go.Proofs List Nat Tryz
attribute [local irreducible] bA bw aV bp bG wr aZ bF comp DC DP DW DV DY
theorem nD {d:Nat}{l:List (List AV)}{n:Int}(i:∀x∈l,cP d x)(h:n.toNat<l.length):∃(a:Int) (t:Ty) (v:Vl) (m:Int) (c b:BL (List AV)),
 l[n.toNat]? = some [i64 a,i64 t.kind,i64 t.p,i64 t.q,.bool t.fz,.str t.eA,i64 v.n,.str v.s,i64 m,.ak 11 c.l,.ak 11 b.l]∧cP d [i64 a,i64 t.kind,i64 t.p,i64 t.q,.bool t.fz,.str t.eA,i64 v.n,.str v.s,i64 m,.ak 11 c.l,.ak 11 b.l]:=by
 have e:=i _ (za9 h);cases d with
 | zero=>exact e.elim
 | succ d =>
   obtain⟨a,t,v,m,c,b,k,o,j⟩:=e
   grind
theorem xV {d:Nat}{l:List (List AV)}{n:Int}(r:∀x∈l,rh (cP d) x)(h:n.toNat<l.length):∃(b:Int) (t:Ty) (v:Vl) (m:Int) (a c:BL (List AV)) (lo hi f:Int),
 l[n.toNat]? = some [i64 b,i64 t.kind,i64 t.p,i64 t.q,.bool t.fz,.str t.eA,i64 v.n,.str v.s,i64 m,.ak 11 a.l,.ak 11 c.l,i64 lo,i64 hi,i64 f]∧cP d [i64 b,i64 t.kind,i64 t.p,i64 t.q,.bool t.fz,.str t.eA,i64 v.n,.str v.s,i64 m,.ak 11 a.l,.ak 11 c.l]:=by
 obtain⟨e,lo,hi,f,u,i⟩:=r _ (za9 h);cases d with
 | zero=>exact i.elim
 | succ d =>
   obtain⟨b,t,v,m,a,c,w,o,k⟩:=i;exact⟨b,t,v,m,a,c,lo,hi,f,by simp_all,b,t,v,m,a,c,rfl,o,k⟩
theorem K8:∀(d:Nat) (cs:List AV),cP d cs->∀n:Int,af 229 [.agg cs,i64 n] (cc fun _=>True)
 | 0,_,h,_=>h.elim
 | d + 1, cs, ⟨N, t, v, m, l, r, q, H, I⟩, n => by
   subst q;have w:=K8 d;refine zw func229 ?_;have J:=l.h;have K:=r.h;refine zg ?_
   repeat' ((first|(refine zp ?_ ?_<;>intro h)|(refine DC.pure rfl (Qk N t v m l r) ?_;rintro _ rfl)|refine DW.range [3,4] ?_|refine zd func327 ?_)<;>refine zg ?_)
   all_goals first|exact⟨_,rfl,trivial⟩|skip
   refine DW.aO aC aD [2,3,9,10] [] 0 (fun i:Nat=>[(11,i64 i)]) (fun _=>[]) [] (fun i=>r.l.length+1 - i) (0) ?_
   refine zl fun i=>?_
   refine zk ?_
   repeat' ((first|(refine zp ?_ ?_<;>intro h)|(refine DC.pure rfl (TP b u E o p s M) ?_;rintro _ rfl)|refine DW.range [3,4] ?_|refine zd func344 ?_|(obtain⟨b,u,E,o,p,s,M,a,L,D⟩:=qv I (n:=(i:Int)) aa;refine az.mk _ a ?_;clear a))<;>refine zk ?_)
   . have F := p.h; have G := s.h
     refine DW.aO aC aD [0,1,8,9] [] 0 (fun j:Nat=>[(10,i64 j)]) (fun _=>[]) [] (fun j=>p.l.length+1 - j) (0) ?_
     refine zl fun j=>?_
     refine zk ?_
     repeat' ((first|(refine zp ?_ ?_<;>intro h)|(refine DC.pure rfl (w _ f _) ?_;rintro _ ⟨x,rfl,-⟩)|refine DY.walk aC aD ?_|(obtain⟨g,z,A,y,B,C,a,f⟩:=nD L (n:=(j:Int)) aa;refine az.mk _ a ?_;clear a))<;>refine zk ?_)
     all_goals first|exact⟨_,rfl,trivial⟩|exact zi (j+1)|skip
     refine DW.aO aC aD [0,20,21] [] 0 (fun k:Nat=>[(22,i64 k)]) (fun _=>[]) [] (fun k=>s.l.length+1 - k) (0) ?_
     refine zl fun k=>?_
     refine zk ?_
     repeat' ((first|(refine zp ?_ ?_<;>intro h)|(refine DC.pure rfl (w _ f _) ?_;rintro _ ⟨x,rfl,-⟩)|refine DY.walk aC aD ?_|(obtain⟨g,z,A,y,B,C,P,Q,O,a,f⟩:=xV D (n:=(k:Int)) aa;refine az.mk _ a ?_;clear a))<;>refine zk ?_)
     all_goals first|exact⟨_,rfl,trivial⟩|exact zi (k+1)|exact zi (i+1)
   . refine DW.aO aC aD [3, 23, 24] [] 0 (fun j : Nat => [(25, i64 j)]) (fun _ => []) [] (fun j => l.l.length + 1 - j) (0) ?_
     refine zl fun j=>?_
     refine zk ?_
     repeat' ((first|(refine zp ?_ ?_<;>intro h)|(refine DC.pure rfl (w _ f _) ?_;rintro _ ⟨x,rfl,-⟩)|refine DY.walk aC aD ?_|(obtain⟨g,z,A,y,B,C,a,f⟩:=nD H (n:=(j:Int)) aa;refine az.mk _ a ?_;clear a))<;>refine zk ?_)
     all_goals first|exact⟨_,rfl,trivial⟩|exact zi (j+1)
end Go.Ago
