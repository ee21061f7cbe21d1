/-
  Part A22: lemmas, each with its own conditions.
-/
import Derived.Test.YthaolifcglpkdaaGreatDoorA21
set_option maxRecDepth 100000
set_option maxHeartbeats 0
set_option linter.all false
namespace Go.Ago
open Go.Proofs List Nat Tryz
attribute [local irreducible] bN bM aZ bK b_ wr bp bL comp DC DP DW DV DY
theorem zap (f:Fo)(hf:py f)(num:List UInt8)(hn:num.length=bj f.cz):af 245 [f.av,.str num,.bool true] (fun ae=>∃(s:List UInt8) (n:Int),ae = .ret (.ao [.str s,i64 n])):=by
 refine zw func245 ?_;have hr:=f.hr;have hs:=f.hs;have hw:=hf.w;have hfl:=hf.l;have hwl:=s_ f.cz;have hdl:=hf.d1;have w0:wid [0]=1:=rfl;have w1:wid [1]=1:=rfl;have w2:wid [2]=0:=rfl;have w3:wid [3]=1:=rfl;have w4:wid [4]=1:=rfl;have w5:wid [5]=1:=rfl;have d0:bj [0]=1:=rfl;have d1:bj [1]=1:=rfl;have d2:bj [2]=0:=rfl;have d3:bj [3]=0:=rfl;have d4:bj [4]=0:=rfl;have d5:bj [5]=0:=rfl;have hfe:=F9 f.fill;have hwd:0≤f.width∧f.width≤1000:=aa;refine zg ?_
 repeat' ((first|(refine zp ?_ ?_<;>first|exact⟨⟩|intro h)|(refine DC.flat rfl (Ga f hf num hn _ 0 0 0) ?_;rintro _ ⟨ld,rfl,hld0,hld1⟩;refine⟨rfl,?_⟩)|(refine zh rfl (JV _ _ hfe hwd) ?_;rintro _ rfl))<;>refine zg ?_)
 all_goals first|exact⟨_,_,rfl⟩|skip
 refine DW.aO aC aD [0,2,6,7,8,9,49,50] [6] 3000 (fun x:Wr f.cz=>[(51,i64 x.i),(10,fc 1000 1 (x.acc.map gB))]) (fun x=>(6,xT f num true x.u (wid (f.cz.take x.i)) ld)::e_ 1000 1 (x.acc.map gB)) [(1000,.slot 10)] (fun x=>f.cz.length+1 - x.i) (⟨0,[],0,aa,rfl,ag⟩) ?_
 conv=>whnf
 refine⟨?_,fun x=>?_⟩
 . conv => whnf
   (exact Ec)
 obtain⟨i,acc,u,hi,ha,hu⟩:=x;have hu1:wr .i64 (u+1)=u+1:=aF tj tj;have hu2:wr .i64 (u+1 - 1)=u:=by rw[aF aa tj];omega
 have hful:i=f.cz.length->wid (f.cz.take i)=wid f.cz:=fun h=>by rw[take_of_length_le aa]
 have hdw:=F4 f.cz;rcases acc with _|⟨y,acc⟩
 . simp only [length_nil] at ha
   refine zk ?_
   repeat' ((first|refine zf ?_|(refine Rq.mk (by simp only[hu1,hu2,hZ,decide_eq_true_eq];omega) ?_)|(refine zp ?_ ?_<;>first|exact⟨⟩|intro h)|(obtain⟨r,he,hrm,s1,s2,s6,s7⟩:=yW (l:=f.cz) (i:=i) aa;refine ay.mk _ he ?_;clear he;rcases yt (hf.r r hrm) with⟨rfl,mk9⟩|⟨rfl,mk9⟩|⟨rfl,mk9⟩|⟨rfl,mk9⟩|⟨rfl,mk9⟩|⟨rfl,mk9⟩)|refine zd func289 ?_|refine zd func290 ?_|refine zd func291 ?_|refine zd func292 ?_|refine zd func293 ?_|(have mk7:=Mk.mk 7;refine zd func324 ?_)|(refine DC.pure rfl (yb _ _) ?_;rintro _ ⟨pc,pb,rfl⟩))<;>refine zk ?_)
   all_goals first|(rename Mk 2=>m9;refine⟨⟨i+1,[],u,aa,gH,aa⟩,kV,rfl,dC⟩)|(rename Mk 7=>m7;refine⟨⟨i+1,[_],u+1,aa,gH,aa⟩,kV,rfl,dC⟩)|(refine⟨⟨i+1,[_],u,aa,gH,aa⟩,kV,rfl,dC⟩)
 . simp only [length_cons] at ha
   have hldw:wr .i64 (ld - 1)=ld - 1:=aF aa aa;refine zj ?_
   repeat' ((first|refine zf ?_|(refine Rq.mk (di 1 64 ag rfl rfl q9 ab) ?_)|(refine Rq.mk (by simp only[hu1,hu2,hZ,decide_eq_true_eq];omega) ?_)|(refine Rq.mk (by rw[hldw];simp only[hZ,length_map,decide_eq_true_eq];omega) ?_;rw[hldw])|(refine Rq.mk (by simp only[length_set,length_cons,length_map,ble_eq];omega) ?_)|refine zq ?_|(refine zp ?_ ?_<;>first|exact⟨⟩|intro h)|(obtain⟨r,he,hrm,s1,s2,s6,s7⟩:=yW (l:=f.cz) (i:=i) aa;refine ay.mk _ he ?_;clear he;rcases yt (hf.r r hrm) with⟨rfl,mk9⟩|⟨rfl,mk9⟩|⟨rfl,mk9⟩|⟨rfl,mk9⟩|⟨rfl,mk9⟩|⟨rfl,mk9⟩)|(refine ay.mk _ (by erw [vi ag];exact ud (l:=y::acc)) ?_)|refine ay.mk _ (E4 (l:=y::acc) ag) ?_|(erw [Jb (y:=y) (acc:=acc) (k:=ld - 1) (by simp only[length_cons];omega)])|refine zd func289 ?_|refine zd func290 ?_|refine zd func291 ?_|refine zd func292 ?_|refine zd func293 ?_|(have mk7:=Mk.mk 7;refine zd func324 ?_)|(refine DC.pure rfl (yb _ _) ?_;rintro _ ⟨pc,pb,rfl⟩)|(refine DV.flat rfl (KT f num _ _ _ _ _) ?_;rintro _ ⟨n9,rfl⟩;refine⟨_,rfl,rfl,?_⟩))<;>refine zj ?_)
   all_goals first|(rename Mk 2=>m9;refine⟨⟨i+1,y::acc,u,aa,gH,aa⟩,kV,rfl,dC⟩)|(rename Mk 7=>m7;refine⟨⟨i+1,y::(acc++[_]),u+1,aa,gH,aa⟩,kV,rfl,dC⟩)|(refine⟨⟨i+1,y::(acc++[_]),u,aa,gH,aa⟩,kV,rfl,dC⟩)|exact⟨_,_,rfl⟩
theorem Xg (s r:List UInt8)(j:s.length<281474976710656)(m:r.length<281474976710656):af 191 [.str s,.str r] (fun k=>∃a e:Int,k = .ret (.ao [i64 a,i64 e])):=by
 refine zw func191 ?_;refine zg ?_
 repeat' ((first|(refine zp ?_ ?_<;>intro h)|(refine DC.pure rfl (QH _ j) ?_;rintro _ (rfl|⟨f,rfl,c⟩))|(refine DC.pure rfl (Sx f c r (by assumption)) ?_;rintro _ ⟨b,rfl,g,d⟩)|(refine DC.pure rfl (Og b d (by intro e;subst e;have:=c.d1;simp at g;omega) (by have:=c.d1;omega)) ?_;rintro _ ⟨v,rfl⟩)|(refine DC.pure rfl (zao f c b g) ?_;rintro _ ⟨n,o,rfl⟩)|(refine DC.pure rfl (zap f c b g) ?_;rintro _ ⟨p,l,rfl⟩))<;>refine zg ?_)
 all_goals exact⟨_,_,rfl⟩
theorem SL (s r:List UInt8)(n:s.length<281474976710656)(p:r.length<281474976710656):af 143 [.str s,.str r] (ca fun _=>True):=by
 refine zw func143 ?_
 conv=>whnf
 repeat' first
  | (refine Br.split (fun h=>?_) (fun h=>?_)<;>(try simp only[bz] at h)<;>(conv=>whnf))
  | (refine pQ (fun h=>?_) (fun h=>?_)<;>(conv=>whnf))
  | (refine DC.pure rfl (C0 _ n) ?_;rintro _ (rfl|⟨q,w,rfl⟩|⟨⟨o,i,l,c,g,d,k,j,first,f,t,m,x,y⟩,rfl,v⟩)<;>first|(obtain rfl:i=true:=v.num;conv=>whnf)|(conv=>whnf))
  | (refine DC.pure rfl (Xg _ _ n p) ?_;rintro _ ⟨a,e,rfl⟩;conv=>whnf)
  | (refine DC.pure rfl (SJ ⟨_,aa⟩ ⟨r,p⟩) ?_;rintro _ ⟨b,rfl,-⟩;conv=>whnf)
 all_goals exact⟨_,rfl,trivial⟩
end Go.Ago
namespace Go.Ago
open Go.Proofs List Nat Tryz
theorem WC (s:List UInt8)(a:s.length<281474976710656):af 188 [.str s] (eX fun _=>True):=PL s a
theorem WD (s r:List UInt8)(b:s.length<281474976710656)(a:r.length<281474976710656):af 143 [.str s,.str r] (ca fun _=>True):=SL s r b a
theorem WE (s:List UInt8)(h:s.length<281474976710656):af 236 [.str s] (fun f=>∃(a:List UInt8) (b:Bool) (c d e:Int) (g:Bool) (n:Int),f = .ret (.ao [.agg [.str a,.bool b,i64 c,i64 d,i64 e,.bool g],i64 n])):=Jj s h
end Go.Ago
section
namespace Go.Ago
open Go.Proofs List Nat Tryz
attribute [local irreducible] bN bM aZ bK b_ wr bp bL comp DC DP DW DV
theorem Fv (t:Ty):af 139 [t.av] (eX fun _=>True):=by
 refine zw func139 ?_;refine zg ?_
 repeat' ((first|(refine zp ?_ ?_<;>intro h)|(refine DC.pure rfl (Ud _) ?_;rintro _ ⟨f,rfl,d⟩)|(refine DC.pure rfl (wO _) ?_;rintro _ ⟨e,rfl,c⟩)|(refine DC.pure rfl (WC _ (by exact t.hp)) ?_;rintro _ ⟨g,rfl,b⟩))<;>refine zg ?_)
 all_goals exact⟨_,rfl,trivial⟩
attribute [local semireducible] DP in
theorem DP.nz {g:FuncId}{args:List AV}{p:Int->Prop}(h:af g args (eX p)):∃n,p n∧af g args (fun c=>c = .ret (i64 n)):=by
 obtain⟨_,h,n,rfl,b⟩:=h;exact⟨n,b,_,h,rfl⟩
noncomputable def ct (t:Ty):Int:=Classical.choose (DP.nz (Fv t))
theorem oe (t:Ty):af 139 [t.av] (fun b=>b = .ret (i64 (ct t))):=(Classical.choose_spec (DP.nz (Fv t))).2
attribute [local irreducible] ct
theorem Ue (t:Ty):af 140 [t.av] (ca fun b=>b=true↔t.kind≠7∧ct t=0):=by
 have k1:=@oe;exact zw func140 W
theorem xb (t:Ty):af 101 [t.av] (ca fun b=>b=true↔t.kind≠7∧ct t=0):=by
 have k1:=@oe;exact zw func101 W
theorem wh (t:Ty):af 180 [t.av] (ca fun b=>b=true↔t.kind≠7∧ct t=0):=by
 have k1:=@oe;exact zw func180 W
theorem CP (t:Ty):af 105 [t.av] (ca fun _=>True):=by
 have k1:=@xb;exact zw func105 W
theorem Fs (t:Ty):af 152 [t.av] (ca fun _=>True):=by
 have k1:=@xb;exact zw func152 W
end Go.Ago
end
namespace Go.Ago
open Go.Proofs List Nat Tryz
attribute [local irreducible] bN bM aZ bK b_ wr bp bL comp DC DP DW DV
theorem Ow (s:List UInt8)(b:s.length<281474976710656):af 142 [.str s] (ca fun _=>True):=by
 refine zw func142 ?_
 conv=>whnf
 refine DW.aO aC aD [0,2,5] [] 0 (fun i:Nat=>[(6,i64 i)]) (fun _=>[]) [] (fun i=>s.length+1 - i) (0) ?_
 refine zl fun i=>?_
 refine zg ?_
 repeat' ((refine zp ?_ ?_<;>intro h)<;>refine zg ?_)
 all_goals first|exact⟨_,rfl,trivial⟩|exact zi (i+1)
theorem yO (n lo:Int):af 177 [i64 n,i64 lo] (ca fun _=>True):=by
 have k1:=@kp;exact zw func177 W
theorem K4 (n m:Int):af 222 [i64 n,i64 m] (ca fun b=>b=true↔0≤n∧n≤wr .i64 (m - 1)):=by
 have k1:=@kp;exact zw func222 W
abbrev Zy:List AV:=([1,10,100,1000,10000,100000,1000000,10000000,100000000,1000000000,10000000000,100000000000,1000000000000,10000000000000,100000000000000,1000000000000000,10000000000000000,100000000000000000,1000000000000000000]:List Int).map fun n => .int .i64 n
def CL:Nat->Int|0=>1|n+1=>wr .i64 (CL n * 10)
def Zx (i:Nat):List AV:=(List.range 19).map fun j=>i64 (if j<i then CL j else 0)
theorem Zz:af 237 [] (fun c=>c = .ret (.agg Zy)):=by
 refine zw func237 ?_
 conv=>whnf
 refine DW.aO aC aD [0] [0] 0 (fun i:{i:Nat // i≤19}=>[(3,i64 i.1),(1,i64 (CL i.1))]) (fun i=>[(0,an.arr 19 [Zx i.1])]) [] (fun i=>20 - i.1) (⟨0,ab⟩) ?_
 refine zl fun i=>?_
 rcases i with⟨i,b⟩
 match i,b with
 | 0, _ =>
   refine zg ?_
   repeat' ((refine zp ?_ ?_<;>first|exact⟨⟩|intro h)<;>refine zg ?_)
   all_goals exact zi ⟨1,ab⟩
 | 1, _ =>
   refine zg ?_
   repeat' ((refine zp ?_ ?_<;>first|exact⟨⟩|intro h)<;>refine zg ?_)
   all_goals exact zi ⟨2,ab⟩
 | 2, _ =>
   refine zg ?_
   repeat' ((refine zp ?_ ?_<;>first|exact⟨⟩|intro h)<;>refine zg ?_)
   all_goals exact zi ⟨3,ab⟩
 | 3, _ =>
   refine zg ?_
   repeat' ((refine zp ?_ ?_<;>first|exact⟨⟩|intro h)<;>refine zg ?_)
   all_goals exact zi ⟨4,ab⟩
 | 4, _ =>
   refine zg ?_
   repeat' ((refine zp ?_ ?_<;>first|exact⟨⟩|intro h)<;>refine zg ?_)
   all_goals exact zi ⟨5,ab⟩
 | 5, _ =>
   refine zg ?_
   repeat' ((refine zp ?_ ?_<;>first|exact⟨⟩|intro h)<;>refine zg ?_)
   all_goals exact zi ⟨6,ab⟩
 | 6, _ =>
   refine zg ?_
   repeat' ((refine zp ?_ ?_<;>first|exact⟨⟩|intro h)<;>refine zg ?_)
   all_goals exact zi ⟨7,ab⟩
 | 7, _ =>
   refine zg ?_
   repeat' ((refine zp ?_ ?_<;>first|exact⟨⟩|intro h)<;>refine zg ?_)
   all_goals exact zi ⟨8,ab⟩
 | 8, _ =>
   refine zg ?_
   repeat' ((refine zp ?_ ?_<;>first|exact⟨⟩|intro h)<;>refine zg ?_)
   all_goals exact zi ⟨9,ab⟩
 | 9, _ =>
   refine zg ?_
   repeat' ((refine zp ?_ ?_<;>first|exact⟨⟩|intro h)<;>refine zg ?_)
   all_goals exact zi ⟨10,ab⟩
 | 10, _ =>
   refine zg ?_
   repeat' ((refine zp ?_ ?_<;>first|exact⟨⟩|intro h)<;>refine zg ?_)
   all_goals exact zi ⟨11,ab⟩
 | 11, _ =>
   refine zg ?_
   repeat' ((refine zp ?_ ?_<;>first|exact⟨⟩|intro h)<;>refine zg ?_)
   all_goals exact zi ⟨12,ab⟩
 | 12, _ =>
   refine zg ?_
   repeat' ((refine zp ?_ ?_<;>first|exact⟨⟩|intro h)<;>refine zg ?_)
   all_goals exact zi ⟨13,ab⟩
 | 13, _ =>
   refine zg ?_
   repeat' ((refine zp ?_ ?_<;>first|exact⟨⟩|intro h)<;>refine zg ?_)
   all_goals exact zi ⟨14,ab⟩
 | 14, _ =>
   refine zg ?_
   repeat' ((refine zp ?_ ?_<;>first|exact⟨⟩|intro h)<;>refine zg ?_)
   all_goals exact zi ⟨15,ab⟩
 | 15, _ =>
   refine zg ?_
   repeat' ((refine zp ?_ ?_<;>first|exact⟨⟩|intro h)<;>refine zg ?_)
   all_goals exact zi ⟨16,ab⟩
 | 16, _ =>
   refine zg ?_
   repeat' ((refine zp ?_ ?_<;>first|exact⟨⟩|intro h)<;>refine zg ?_)
   all_goals exact zi ⟨17,ab⟩
 | 17, _ =>
   refine zg ?_
   repeat' ((refine zp ?_ ?_<;>first|exact⟨⟩|intro h)<;>refine zg ?_)
   all_goals exact zi ⟨18,ab⟩
 | 18, _ =>
   refine zg ?_
   repeat' ((refine zp ?_ ?_<;>first|exact⟨⟩|intro h)<;>refine zg ?_)
   all_goals exact zi ⟨19,ab⟩
 | 19, _ =>
   refine zg ?_
   repeat' ((refine zp ?_ ?_<;>first|exact⟨⟩|intro h)<;>refine zg ?_)
   all_goals kernel_rfl
 | n+20,h=>exact absurd h aa
theorem PW (p:Int)(h:0≤p∧p≤18):∃n:Int,0≤n∧n<9223372036854775808∧chunk [AV.int IntKind.i64 1,AV.int IntKind.i64 10,AV.int IntKind.i64 100,AV.int IntKind.i64 1000,AV.int IntKind.i64 10000,AV.int IntKind.i64 100000,AV.int IntKind.i64 1000000,AV.int IntKind.i64 10000000,AV.int IntKind.i64 100000000,AV.int IntKind.i64 1000000000,AV.int IntKind.i64 10000000000,AV.int IntKind.i64 100000000000,AV.int IntKind.i64 1000000000000,AV.int IntKind.i64 10000000000000,AV.int IntKind.i64 100000000000000,AV.int IntKind.i64 1000000000000000,AV.int IntKind.i64 10000000000000000,AV.int IntKind.i64 100000000000000000,AV.int IntKind.i64 1000000000000000000] (p.toNat * o6.size) o6.size=some [.int .i64 n]:=by
 obtain⟨k,rfl⟩:=Int.eq_ofNat_of_zero_le h.1;have a:k<19:=aa
 match k,a with
 | 0,_=>exact⟨1,ab,ab,rfl⟩
 | 1,_=>exact⟨10,ab,ab,rfl⟩
 | 2,_=>exact⟨100,ab,ab,rfl⟩
 | 3,_=>exact⟨1000,ab,ab,rfl⟩
 | 4,_=>exact⟨10000,ab,ab,rfl⟩
 | 5,_=>exact⟨100000,ab,ab,rfl⟩
 | 6,_=>exact⟨1000000,ab,ab,rfl⟩
 | 7,_=>exact⟨10000000,ab,ab,rfl⟩
 | 8,_=>exact⟨100000000,ab,ab,rfl⟩
 | 9,_=>exact⟨1000000000,ab,ab,rfl⟩
 | 10,_=>exact⟨10000000000,ab,ab,rfl⟩
 | 11,_=>exact⟨100000000000,ab,ab,rfl⟩
 | 12,_=>exact⟨1000000000000,ab,ab,rfl⟩
 | 13,_=>exact⟨10000000000000,ab,ab,rfl⟩
 | 14,_=>exact⟨100000000000000,ab,ab,rfl⟩
 | 15,_=>exact⟨1000000000000000,ab,ab,rfl⟩
 | 16,_=>exact⟨10000000000000000,ab,ab,rfl⟩
 | 17,_=>exact⟨100000000000000000,ab,ab,rfl⟩
 | 18,_=>exact⟨1000000000000000000,ab,ab,rfl⟩
theorem OP (t:Ty)(h:0≤t.p∧t.p≤31∧(t.kind=1->t.p≤9)):af 189 [t.av] (eX fun _=>True):=by
 refine zw func189 ?_;refine zg ?_
 repeat' ((first|(refine zp ?_ ?_<;>intro h)|(refine zh rfl (Zz) ?_;rintro _ rfl)|(obtain⟨m,c,d,b⟩:=PW t.p aa;rw[b])|refine zo ?_)<;>refine zg ?_)
 all_goals exact⟨_,rfl,trivial⟩
theorem Rz (v:Vl)(t:Ty):af 141 [v.av,t.av] (eX fun _=>True):=by
 refine zw func141 ?_;refine zg ?_
 repeat' ((first|(refine zp ?_ ?_<;>intro h)|(refine DC.pure rfl (wO _) ?_;rintro _ ⟨d,rfl,a⟩)|(refine DC.pure rfl (OP _ (by have:=a bA;omega)) ?_;rintro _ ⟨e,rfl,c⟩))<;>refine zg ?_)
 all_goals exact⟨_,rfl,trivial⟩
theorem wj (t:Ty)(v:Vl):af 102 [t.av,v.av] (eX fun _=>True):=by
 refine zw func102 ?_;refine zg ?_
 repeat' ((first|(refine zp ?_ ?_<;>first|exact⟨⟩|intro h)|(refine DC.pure rfl (Ue _) ?_;rintro _ ⟨f,rfl,d⟩)|(refine DC.pure rfl (Rz _ _) ?_;rintro _ ⟨i,rfl,c⟩)|(refine DC.pure rfl (Ow _ v.hs) ?_;rintro _ ⟨g,rfl,e⟩)|(refine DC.pure rfl (WD _ _ t.hp v.hs) ?_;rintro _ ⟨j,rfl,b⟩))<;>refine zg ?_)
 all_goals exact⟨_,rfl,trivial⟩
theorem Dl (t:Ty):af 220 [t.av] (eX fun n=>ct t=0->(t.kind=2->n=16∨n=32)∧(t.kind=6->n=32)):=by
 refine zw func220 ?_;refine zg ?_
 repeat' ((first|(refine zp ?_ ?_<;>intro h)|(refine DC.pure rfl (oe _) ?_;rintro _ rfl)|(refine DC.pure rfl (WE _ t.hp) ?_;rintro _ ⟨c,d,e,f,g,i,b,rfl⟩))<;>refine zg ?_)
 all_goals exact⟨_,rfl,by intro _;constructor<;>intro _<;>omega⟩
theorem Rw (l:BL Int):af 247 [.ak 1 (l.l.map fun n=>[i64 n])] (eX fun _=>True):=by
 refine zw func247 ?_;have b:=l.h
 conv=>whnf
 refine DW.aO aC aD [2,5,6] [] 0 (fun i:Nat=>[(7,i64 i)]) (fun _=>[]) [] (fun i=>l.l.length+1 - i) (0) ?_
 refine zl fun i=>?_
 refine zg ?_
 repeat' ((refine zp ?_ ?_<;>intro h)<;>refine zg ?_)
 all_goals first|exact⟨_,rfl,trivial⟩|exact zi (i+1)
theorem Zs {α:Type}{p:α->Prop}{l:List α}{i:Nat}(h:∀u∈l.take i,p u)(hi:i<l.length)(a:p l[i]):∀u∈l.take (i+1),p u:=by
 rw[take_succ_eq_append_getElem hi] at *
 grind
theorem Zr {α:Type}{p:α->Prop}{l:List α}{i:Nat}(h:∀u∈l.take i,p u)(hi:l.length≤i):∀u∈l,p u:=by
 rwa [take_of_length_le hi] at h
theorem Km (t:Ty)(l:BL Ty):af 248 [t.av,iN l.l] (eX fun n=>n=0->∀u∈l.l,u.kind=t.kind):=by
 refine zw func248 ?_;have c:=l.h
 conv=>whnf
 refine DW.aO aC aD [2,4,7,8] [] 0 (fun i:{i:Nat // ∀u∈l.l.take i,u.kind=t.kind}=>[(9,i64 i.1)]) (fun _=>[]) [] (fun i=>l.l.length+1 - i.1) (⟨0,ag⟩) ?_
 refine zl fun i=>?_
 refine zg ?_
 repeat' ((refine zp ?_ ?_<;>intro h)<;>refine zg ?_)
 all_goals first|exact⟨_,rfl,fun b=>absurd b ab⟩|exact⟨_,rfl,fun _=>Zr i.2 aa⟩|exact zi ⟨i.1+1,Zs i.2 aa bA⟩
theorem Cp (s:BL UInt8):af 179 [.str s.l] (ca fun _=>True):=by
 refine zw func179 ?_;have c:=s.h
 conv=>whnf
 refine DW.aO aC aD [0,2,6,7] [] 0 (fun i:Nat=>[(8,i64 i)]) (fun _=>[]) [] (fun i=>s.l.length+1 - i) (0) ?_
 refine zl fun i=>?_
 refine zg ?_
 repeat' ((first|(refine zp ?_ ?_<;>intro h)|(refine DC.pure rfl (kp _ _ _) ?_;rintro _ ⟨d,rfl,b⟩))<;>refine zg ?_)
 all_goals first|exact⟨_,rfl,trivial⟩|exact zi (i+1)
theorem Y4 (p:cR):af 131 [p.av] (eX fun _=>True):=by
 refine zw func131 ?_;have b:=p.procs.h
 conv=>whnf
 refine DW.aO aC aD [2,7,8] [] 0 (fun i:Nat×Int=>[(9,i64 i.1),(3,i64 i.2)]) (fun _=>[]) [] (fun i=>p.procs.l.length+1 - i.1) (⟨0,0⟩) ?_
 refine zl fun i=>?_
 refine zg ?_
 repeat' ((refine zp ?_ ?_<;>intro h)<;>refine zg ?_)
 all_goals first|exact⟨_,rfl,trivial⟩|exact zi ((i.1+1,_))
theorem ED (t:Ty):af 219 [t.av] (eX fun n=>ct t=0->n=1∨n=8∨n=16∨n=32∨n=64):=by
 have k1:=@oe;have k2:=@Dl;exact zw func219 W
theorem HC (l:BL iS)(bits:Int):af 178 [nj l.l,i64 bits] (ca fun _=>True):=by
 refine zw func178 ?_;have f:=l.h
 conv=>whnf
 refine DW.aO aC aD [1,4,7,8] [] 0 (fun i:Nat=>[(9,i64 i)]) (fun _=>[]) [] (fun i=>l.l.length+1 - i) (0) ?_
 refine zl fun i=>?_
 refine zg ?_
 repeat' ((first|(refine Rq.mk (by(first|rfl|((try simp only[rz]);((have k:=b (a.1 bA).2;omega))))) ?_)|(refine zb ?_ ?_<;>(intro h))|(refine zh rfl (wh _) ?_;rintro _ ⟨g,rfl,a⟩)|(refine zh rfl (wj _ _) ?_;rintro _ ⟨j,rfl,e⟩)|(refine zh rfl (ED _) ?_;rintro _ ⟨m,rfl,b⟩)|(refine zh rfl (Dl _) ?_;rintro _ ⟨n,rfl,d⟩))<;>refine zg ?_)
 all_goals first|exact⟨_,rfl,trivial⟩|exact zi (i+1)
theorem jT (e:Int):af 129 [.bool true,i64 e] (fun b=>b = .ret (.ao [])):=by
 refine zw func129 ?_;rfl
theorem jS (e:Int):af 129 [.bool false,i64 e] (fun b=>b = .aR (D_ e)):=by
 refine zw func129 ?_
 conv=>whnf
theorem RV (p:cR):af 132 [p.av] (oY (1≤p.procs.l.length∧p.procs.l.length≤64)):=by
 have k:=p.files.h;have n:=p.conds.h;have o:=p.dv.h;refine zw func132 ?_;refine zg ?_
 repeat' ((first|(refine zp ?_ ?_<;>intro h)|(refine DC.pure rfl (jT _) ?_;rintro _ rfl)|(refine DC.pure rfl (jS _) ?_;rintro _ rfl)|(refine DC.pure rfl (kp _ _ _) ?_;rintro _ ⟨g,rfl,c⟩)|(refine DC.pure rfl (yO _ _) ?_;rintro _ ⟨e,rfl,b⟩)|(refine DC.pure rfl (HC _ _) ?_;rintro _ ⟨m,rfl,f⟩))<;>refine zg ?_)
 all_goals first|exact .inr ⟨_,rfl,ab⟩|skip
 refine DW.aO aC aD [1,43,44] [] 0 (fun i:Nat=>[(45,i64 i)]) (fun _=>[]) [] (fun i=>p.files.l.length+1 - i) (0) ?_
 refine zl fun i=>?_
 refine zg ?_
 repeat' ((first|(refine zp ?_ ?_<;>intro h)|(refine DC.pure rfl (jT _) ?_;rintro _ rfl)|(refine DC.pure rfl (jS _) ?_;rintro _ rfl)|(refine DC.pure rfl (kp _ _ _) ?_;rintro _ ⟨g,rfl,c⟩)|(refine DC.pure rfl (Cp _) ?_;rintro _ ⟨j,rfl,a⟩))<;>refine zg ?_)
 all_goals first|exact .inr ⟨_,rfl,ab⟩|exact zi (i+1)|skip
 refine DW.aO aC aD [1,60,61] [] 0 (fun i:Nat=>[(62,i64 i)]) (fun _=>[]) [] (fun i=>p.conds.l.length+1 - i) (0) ?_
 refine zl fun i=>?_
 refine zg ?_
 repeat' ((first|(refine zp ?_ ?_<;>intro h)|(refine DC.pure rfl (jT _) ?_;rintro _ rfl)|(refine DC.pure rfl (jS _) ?_;rintro _ rfl)|(refine DC.pure rfl (Cp _) ?_;rintro _ ⟨j,rfl,a⟩))<;>refine zg ?_)
 all_goals first|exact .inr ⟨_,rfl,ab⟩|exact zi (i+1)|skip
 refine DW.aO aC aD [71,72] [] 0 (fun i:Nat=>[(73,i64 i)]) (fun _=>[]) [] (fun i=>p.dv.l.length+1 - i) (0) ?_
 refine zl fun i=>?_
 refine zg ?_
 repeat' ((first|(refine zp ?_ ?_<;>intro h)|(refine DC.pure rfl (jT _) ?_;rintro _ rfl)|(refine DC.pure rfl (jS _) ?_;rintro _ rfl)|(refine DC.pure rfl (yO _ _) ?_;rintro _ ⟨e,rfl,b⟩))<;>refine zg ?_)
 all_goals first|exact .inr ⟨_,rfl,ab⟩|exact zi (i+1)|skip
 all_goals exact .inl ⟨rfl,by simp_all;omega⟩
theorem WX (p:cR):af 133 [p.av] (oY (jo p.procs.l)):=by
 have t:=p.procs.h;refine zw func133 ?_
 conv=>whnf
 refine DW.aO aC aD [5,6] [] 0 (fun i:{i:Nat // tO p.procs.l i}=>[(7,i64 i.1)]) (fun _=>[]) [] (fun i=>p.procs.l.length+1 - i.1) (⟨0,fun _ _ h=>absurd h aa⟩) ?_
 refine zl fun i=>?_
 refine zg ?_
 repeat' ((first|(refine zp ?_ ?_<;>first|exact⟨⟩|intro h)|(refine DC.pure rfl (jT _) ?_;rintro _ rfl)|(refine DC.pure rfl (jS _) ?_;rintro _ rfl)|(refine DC.pure rfl (kp _ _ _) ?_;rintro _ ⟨r,rfl,d⟩)|(refine DC.pure rfl (yO _ _) ?_;rintro _ ⟨o,rfl,e⟩)|(refine DC.pure rfl (HC _ _) ?_;rintro _ ⟨s,rfl,c⟩)|(refine DC.pure rfl (Cp _) ?_;rintro _ ⟨n,rfl,b⟩)|(refine DC.pure rfl (wh _) ?_;rintro _ ⟨q,rfl,g⟩))<;>refine zg ?_)
 all_goals first|exact .inr ⟨_,rfl,ab⟩|refine zi ⟨i.1+1,i.2.succ aa ?_⟩|skip
 all_goals first
  | exact .inl ⟨rfl,fun k f h=>i.2 k f aa⟩
  | exact⟨fun _=>by assumption,fun j=>absurd aa j,aa,aa,aa⟩
  | (have m : wr .i64 ((i.1:Int) - 1) = (i.1:Int) - 1 := aF aa aa
     simp_all[zR]<;>omega)
theorem Ww {l:List eC}(h:jo l){n:Int}(b:0≤n∧n<l.length):(l[n.toNat]'aa).parent<n∧-1≤(l[n.toNat]'aa).parent:=by
 have:=h n.toNat aa aa;obtain⟨c,d,_⟩:=this
 grind
theorem D1 (p:cR)(e:jo p.procs.l)(a b:Int)(d:a<p.procs.l.length):af 223 [p.av,i64 a,i64 b] (eX fun n=>True):=by
 refine zw func223 ?_
 conv=>whnf
 refine DW.aO aC aD [2,3,6] [] 0 (fun i:{i:Int×Int // i.1<p.procs.l.length}=>[(1,i64 i.1.1),(7,i64 i.1.2)]) (fun _=>[]) [] (fun i=>(i.1.1+1).toNat) (⟨(a,0),d⟩) ?_
 refine zl fun i=>?_
 refine zg ?_
 repeat' ((refine zp ?_ ?_<;>intro h)<;>refine zg ?_)
 all_goals first|exact⟨_,rfl,trivial⟩|(have f:=Ww e (n:=i.1.1) aa;refine⟨⟨((p.procs.l[i.1.1.toNat]'aa).parent,_),?_⟩,(by(conv=>whnf);(exact q0)),rfl,?_⟩<;>dsimp only<;>omega)
theorem tc (n lo hi:Int):af 130 [i64 n,i64 lo,i64 hi] (kQ (lo≤n∧n≤hi)):=(kp n _ _).dec
theorem o3 (n:Int)(m:Nat)(a:m<281474976710656):af 222 [i64 n,i64 m] (kQ (0≤n∧n<m)):=by
 have h:=(K4 n m).dec;rw[aF aa aa] at h
 grind
theorem Kt (p:cR)(f:jo p.procs.l)(a b:Int)(g:a<p.procs.l.length):af 251 [p.av,i64 a,i64 b] (ca fun x=>x=true->1≤b∧b<p.procs.l.length):=by
 refine zw func251 ?_;have j:=p.procs.h;have i:wr .i64 ((p.procs.l.length:Int) - 1)=(p.procs.l.length:Int) - 1:=aF aa aa;refine zg ?_
 repeat' ((first|(refine zp ?_ ?_<;>intro h)|(refine zh rfl (tc _ _ _) ?_;rintro _ (⟨rfl,c⟩|⟨rfl,c⟩)<;>simp only[i,length_map] at c)|(refine zh rfl (D1 _ f _ _ g) ?_;rintro _ ⟨k,rfl,e⟩))<;>refine zg ?_)
 all_goals first|exact⟨_,rfl,fun _=>aa⟩|exact⟨_,rfl,fun h=>by cases h⟩
theorem GF (c:Ck)(n k:Int):af 226 [c.av,i64 n,i64 k] (ca fun _=>True):=by
 refine zw func226 ?_;have j:=c.p.procs.h;have e:=c.ar.h;have f:=c.p.files.h;have d:=c.p.dv.h;have g:=c.p.conds.h;have i:=c.fK;refine zg ?_
 repeat' ((first|(refine zp ?_ ?_<;>intro h)|(refine DC.pure rfl (o3 _ _ mG) ?_;rintro _ (⟨rfl,a⟩|⟨rfl,a⟩)<;>simp only[length_map] at a))<;>refine zg ?_)
 all_goals exact⟨_,rfl,trivial⟩
theorem Pm (c:Ck)(n k:Int):af 225 [c.av,i64 n,i64 k] (ca fun _=>True):=by
 refine zw func225 ?_;have o:=c.p.procs.h;have e:=c.ar.h;have f:=c.p.files.h;have g:=c.p.dv.h;have i:=c.p.conds.h;have j:=c.fK;refine zg ?_
 repeat' ((first|(refine zp ?_ ?_<;>intro h)|(refine DC.pure rfl (o3 _ _ mG) ?_;rintro _ (⟨rfl,a⟩|⟨rfl,a⟩)<;>simp only[length_map] at a)|(refine DC.pure rfl (GF _ _ _) ?_;rintro _ ⟨m,rfl,l⟩)|(refine DC.pure rfl (kp _ _ _) ?_;rintro _ ⟨q,rfl,d⟩))<;>refine zg ?_)
 all_goals exact⟨_,rfl,trivial⟩
theorem Jp (c:Ck)(q n:Int)(j:0≤q∧q<c.p.procs.l.length):af 221 [c.av,i64 q,i64 n] (ca fun _=>True):=by
 refine zw func221 ?_;have k:=c.p.procs.h;have f:=c.ar.h;have d:=c.p.files.h;have e:=c.p.dv.h;have g:=c.p.conds.h;have i:=c.fK;refine zg ?_
 repeat' ((first|(refine zp ?_ ?_<;>intro h)|(refine DC.pure rfl (kp _ _ _) ?_;rintro _ ⟨m,rfl,b⟩))<;>refine zg ?_)
 all_goals exact⟨_,rfl,trivial⟩
theorem Zt (c:Ck)(n r k:Int):af 224 [c.av,i64 n,i64 r,i64 k] (ca fun _=>True):=by
 refine zw func224 ?_;have m:=c.p.procs.h;have j:=c.ar.h;have g:=c.p.files.h;have e:=c.p.dv.h;have i:=c.p.conds.h;have b:=c.fK;refine zk ?_
 repeat' ((first|(refine Rq.mk (by(first|rfl|((try simp only[rz]);((have f:=a bA;omega))))) ?_)|(refine zp ?_ ?_<;>intro h)|(refine ay.mk _ (cU (by((have f:=a bA;omega)))) ?_)|(refine zh rfl (Kt _ c.hp _ _ b.2) ?_;rintro _ ⟨l,rfl,a⟩))<;>refine zk ?_)
 all_goals exact⟨_,rfl,trivial⟩
theorem I8 {d:Nat}(l:BL (List AV))(a:∀x∈l.l,cP d x)(k:Int):af 232 [.ak 11 l.l,i64 k] (ca fun _=>True):=by
 refine zw func232 ?_;have o:=l.h
 conv=>whnf
 refine DW.aO aC aD [1,4,7,8] [] 0 (fun i:Nat=>[(9,i64 i)]) (fun _=>[]) [] (fun i=>l.l.length+1 - i) (0) ?_
 refine zl fun i=>?_
 refine zk ?_
 repeat' ((first|(refine zp ?_ ?_<;>intro h)|(obtain⟨g,t,v,m,p,j,c,f,e⟩:=CH a (n:=(i:Int)) aa;refine ay.mk _ c ?_;clear c))<;>refine zk ?_)
 all_goals first|exact⟨_,rfl,trivial⟩|exact zi (i+1)
theorem HU {f:List AV->Prop}(l:BL (List AV))(a:∀x∈l.l,j7 f x)(k:Int):af 233 [.ak 11 l.l,i64 k] (ca fun _=>True):=by
 refine zw func233 ?_;have g:=l.h
 conv=>whnf
 refine DW.aO aC aD [1,4,7,8] [] 0 (fun i:Nat=>[(9,i64 i)]) (fun _=>[]) [] (fun i=>l.l.length+1 - i) (0) ?_
 refine zl fun i=>?_
 refine zk ?_
 repeat' ((first|(refine zp ?_ ?_<;>intro h)|(obtain⟨q,r,j,m,o,p,t,c,e,d⟩:=qx a (n:=(i:Int)) aa;refine ay.mk _ c ?_;clear c))<;>refine zk ?_)
 all_goals first|exact⟨_,rfl,trivial⟩|exact zi (i+1)
theorem WZ:af 261 [] (fun b=>b = .ret (.agg [i64 6,i64 0,i64 0,.bool false,.str []])):=by
 refine zw func261 ?_;rfl
theorem Ot (p:Int):af 262 [i64 p] (fun b=>b = .ret (.agg [i64 2,i64 p,i64 0,.bool false,.str []])):=by
 refine zw func262 ?_
 conv=>whnf
theorem zae (p:Int):af 263 [i64 p] (fun b=>b = .ret (.agg [i64 3,i64 p,i64 0,.bool true,.str []])):=by
 refine zw func263 ?_
 conv=>whnf
theorem EW:af 194 [] (fun b=>b = .ret (.agg [i64 4,i64 1,i64 0,.bool false,.str []])):=by
 refine zw func194 ?_;rfl
theorem Pn (l:BL Fm)(n:Int):af 227 [ma l.l,i64 n] (ca fun _=>True):=by
 refine zw func227 ?_;have c:=l.h
 conv=>whnf
 refine DW.aO aC aD [0,1,4,8,9] [] 0 (fun i:Nat×Int=>[(10,i64 i.1),(5,i64 i.2)]) (fun _=>[]) [] (fun i=>l.l.length+1 - i.1) (⟨0,0⟩) ?_
 refine zl fun i=>?_
 refine zg ?_
 repeat' ((first|(refine zp ?_ ?_<;>first|exact⟨⟩|intro h)|(refine DC.pure rfl (kp _ _ _) ?_;rintro _ ⟨d,rfl,b⟩)|(refine DC.pure rfl (oe ⟨5,0,0,false,_,l.l[i.1].ep.h⟩) ?_;rintro _ rfl))<;>refine zg ?_)
 all_goals first|exact⟨_,rfl,trivial⟩|exact zi ((i.1+1,_))
theorem SM (c:Ck)(u:Int):af 259 [c.av,i64 u] (fun b=>(∃q:eC,b = .ret (.ao [q.av,.bool true]))∨b = .ret (.ao [.agg [.str [],i64 0,i64 0,i64 0,.ah,.ah,.ah],.bool false])):=by
 refine zw func259 ?_;have l:=c.p.procs.h;have f:=c.ar.h;have g:=c.p.files.h;have e:=c.p.dv.h;have j:=c.p.conds.h;have i:=c.fK;refine zk ?_
 repeat' ((first|(refine Rq.mk (by(first|rfl|((try simp only[rz]);((have k:=c.Hk _ (getElem_mem (n:=u.toNat) aa);omega))))) ?_)|(refine ay.mk _ (cU (by(first|omega|(have k:=c.Hk _ (getElem_mem (n:=u.toNat) aa);omega)))) ?_)|(refine DC.pure rfl (o3 _ _ mG) ?_;rintro _ (⟨rfl,a⟩|⟨rfl,a⟩)<;>simp only[length_map] at a))<;>refine zk ?_)
 all_goals first|exact .inr rfl|exact .inl ⟨_,rfl⟩
theorem ZR {d:Nat}(l:BL (List AV))(c:∀x∈l.l,cP d x)(p:l.l.length≤1000):af 264 [.ak 11 l.l] (fun r=>∃ts:List Ty,ts.length≤l.l.length∧r = .ret (bif ts.isEmpty then .ah else iN ts)):=by
 have w:=l.h;refine zw func264 ?_
 conv=>whnf
 refine DW.aO aC aD [0,6,7] [] 2000 (fun i:{i:Nat×List Ty // i.2.length≤i.1∧i.1≤l.l.length}=>[(8,i64 i.1.1),(3,fc 1000 5 (i.1.2.map Ty.cells))]) (fun i=>e_ 1000 5 (i.1.2.map Ty.cells)) [(1000,.slot 3)] (fun i=>l.l.length+1 - i.1.1) (⟨(0,[]),Nat.le_refl _,zero_le _⟩) ?_
 refine zl fun i=>?_
 rcases i with⟨⟨i,_|⟨y,a⟩⟩,k⟩
 . conv => whnf
   repeat' ((first|refine Br.f (b:=beq _ _) rfl ?_|refine Rq.mk kU ?_|refine Br.split (fun h=>?_) (fun h=>?_)<;>(try simp only[hZ,BS,length_map,length_cons,length_nil,mZ,wJ,Cb,Ca,Cg,Cf,Bool.not_eq_true',Bool.not_eq_false'] at h)|(obtain⟨u,t,v,m,q,s,e,j,g⟩:=CH c (n:=(i:Int)) aa;refine ay.mk _ e ?_;clear e))<;>conv=>whnf)
   all_goals first|exact⟨[],zero_le _,rfl⟩|exact zi ⟨(i+1,[t]),(by simp only[length_cons,length_nil];omega)⟩
 . conv => whnf
   repeat' ((first|refine Br.f (b:=beq _ _) rfl ?_|refine Rq.mk (di 48 1000 ag rfl rfl (by simp only[length_cons,length_map] at k ⊢;omega) ab) ?_|refine Rq.mk kU ?_|refine Br.split (fun h=>?_) (fun h=>?_)<;>(try simp only[hZ,BS,length_map,length_cons,length_nil,mZ,wJ,Cb,Ca,Cg,Cf,Bool.not_eq_true',Bool.not_eq_false'] at h)|(obtain⟨u,t,v,m,q,s,e,j,g⟩:=CH c (n:=(i:Int)) aa;refine ay.mk _ e ?_;clear e))<;>conv=>whnf)
   all_goals first
    | (refine⟨⟨(i+1,y::(a++[t])),(by simp only[length_cons,length_append,length_nil] at k ⊢;omega)⟩,(by(conv=>whnf);(repeat' first|exact True.intro|apply And.intro|rfl|exact dW aB aB ag aB|exact eS aB (gl (f:=Ty.cells) (fun _=>by rfl) aB ag)|exact cX (f:=Ty.cells) (fun _=>by rfl)|(refine cw ?_ ?_ ?_<;>(try dsimp only)<;>omega))),rfl,vu⟩)
    | (erw [qQ (f := Ty.cells) (fun _ => by rfl) aB]; conv => whnf
       exact⟨y::a,(by simp only[length_cons] at k ⊢;omega),rfl⟩)
attribute [local semireducible] DP in
theorem DP.norm {g:FuncId}{args:List AV}{α:Type}{f:α->List AV}{sz:Nat}{p:List α->Prop}(h:af g args (fun d=>∃l:List α,d = .ret (bif l.isEmpty then .ah else .ak sz (l.map f))∧p l)):af g args (fun d=>∃l:List α,d = .ret (.ak sz (l.map f))∧p l):=by
 obtain⟨_,h,l,rfl,j⟩:=h;cases l with
 | nil =>
   refine⟨.ret _,⟨h.1,fun c w y t n o=>(h.2 c w _ t n o).mono ?_⟩,[],rfl,j⟩
   rintro e z ⟨u,_,s,q,r,k,rfl⟩
   refine⟨u,_,s,q,r,?_,rfl⟩;cases e with
   | returned v=>cases k;exact .fk _
   | _=>exact k.elim
 | cons x l=>exact⟨_,h,x::l,rfl,j⟩
theorem ZQ {d:Nat}(l:BL (List AV))(b:∀x∈l.l,cP d x)(a:l.l.length≤1000):af 264 [.ak 11 l.l] (fun c=>∃ts:BL Ty,c = .ret (iN ts.l)):=by
 refine(DP.norm (f:=Ty.cells) (sz:=5) (p:=fun ts=>ts.length≤l.l.length) ((ZR l b a).mono ?_)).mono ?_
 . grind
 rintro _ ⟨ts,rfl,h⟩;exact⟨⟨ts,aa⟩,rfl⟩
theorem UG (l:BL Ty)(s:List UInt8):af 250 [iN l.l,.str s] (ca fun b=>b=true->l.l.length=s.length):=by
 refine zw func250 ?_;have f:=l.h;refine zg ?_
 repeat' ((refine zp ?_ ?_<;>intro h)<;>refine zg ?_)
 all_goals first|exact⟨_,rfl,fun h=>absurd h ab⟩|skip
 refine DW.aO aC aD [1,4,12,13] [] 0 (fun i:Nat=>[(14,i64 i)]) (fun _=>[]) [] (fun i=>l.l.length+1 - i) (0) ?_
 refine zl fun i=>?_
 refine zg ?_
 repeat' ((first|(refine zp ?_ ?_<;>intro h)|(refine DC.pure rfl (PI _) ?_;rintro _ ⟨j,rfl,e⟩)|(refine DC.pure rfl (Oy _) ?_;rintro _ ⟨g,rfl,d⟩)|(refine DC.pure rfl (To _) ?_;rintro _ ⟨k,rfl,c⟩))<;>refine zg ?_)
 all_goals first|exact⟨_,rfl,fun h=>absurd h ab⟩|exact⟨_,rfl,fun _=>aa⟩|exact zi (i+1)
theorem Tt {k p q:Int}{v:Bool}{s:List UInt8}(h:s.length<281474976710656):∃t:Ty,AE.ret (.agg [.int .i64 k,.int .i64 p,.int .i64 q,.bool v,.str s])=AE.ret t.av:=⟨⟨k,p,q,v,s,h⟩,rfl⟩
theorem HN {k p q e:Int}{v:Bool}{s:List UInt8}(h:s.length<281474976710656):∃(t:Ty) (a:Int),AE.ret (.ao [.agg [.int .i64 k,.int .i64 p,.int .i64 q,.bool v,.str s],.int .i64 e])=AE.ret (.ao [t.av,i64 a]):=⟨⟨k,p,q,v,s,h⟩,e,rfl⟩
theorem Gv (f:Int)(a b:Ty):af 249 [i64 f,a.av,b.av] (fun e=>∃t:Ty,e = .ret t.av):=by
 refine zw func249 ?_;have g:=a.hp;have i:=b.hp;refine zg ?_
 repeat' ((first|(refine zp ?_ ?_<;>intro h)|(refine DC.pure rfl (IC _) ?_;rintro _ ⟨j,rfl,d⟩))<;>refine zg ?_)
 all_goals exact Tt (ab)
theorem Nx (g:Int)(a b:Ty):af 195 [i64 g,a.av,b.av] (fun n=>∃(t:Ty) (e:Int),n = .ret (.ao [t.av,i64 e])):=by
 refine zw func195 ?_;have i:=a.hp;have k:=b.hp;refine zg ?_
 repeat' ((first|(refine zp ?_ ?_<;>intro h)|(refine DC.pure rfl (Wj _) ?_;rintro _ ⟨o,q,rfl⟩)|(refine zh rfl (wO a) ?_;rintro _ ⟨p,rfl,l⟩)|(refine zh rfl (wO b) ?_;rintro _ ⟨r,rfl,j⟩)|(refine DV.flat rfl (Km a ⟨[b],by(show 1<_;decide)⟩) ?_;rintro _ ⟨m,rfl,c⟩<;>refine⟨_,rfl,rfl,?_⟩)|(refine DV.flat rfl (Km a ⟨[a],by(show 1<_;decide)⟩) ?_;rintro _ ⟨m,rfl,c⟩<;>refine⟨_,rfl,rfl,?_⟩)|(refine DV.flat rfl (Rw ⟨[_,_,_],by(show 3<_;decide)⟩) ?_;rintro _ ⟨s,rfl,f⟩<;>refine⟨_,rfl,rfl,?_⟩)|(refine DC.pure rfl (Gv _ a b) ?_;rintro _ ⟨t,rfl⟩)|(refine DC.pure rfl (Gv _ a a) ?_;rintro _ ⟨t,rfl⟩))<;>refine zg ?_)
 all_goals first|exact⟨t,_,rfl⟩|exact HN (ab)
theorem UH (l:BL Ty)(s:List UInt8):af 250 [iN l.l,.str s] (fun a=>(a = .ret (.bool true)∧l.l.length=s.length)∨a = .ret (.bool false)):=by
 refine(UG l s).mono ?_;simp
theorem XR (d:Int)(l:BL Ty):af 196 [i64 d,iN l.l] (fun c=>∃(t:Ty) (e:Int),c = .ret (.ao [t.av,i64 e])):=by
 refine zw func196 ?_;have f:=l.h;refine zg ?_
 repeat' ((first|(refine zp ?_ ?_<;>first|exact⟨⟩|intro h)|(refine DC.pure rfl (UH l _) ?_;rintro _ (⟨rfl,a⟩|rfl)<;>(try simp only[length_cons,length_nil,Nat.zero_add,reduceAdd] at a)))<;>refine zg ?_)
 all_goals exact HN (by first|decide|exact(l.l[(0:Int).toNat]'aa).hp)
theorem FD (c:Int)(h:0≤c∧c≤31):∃a b:Int,chunk xJ (c.toNat * yY.size) yY.size=some [.int .i8 a,.int .i8 b]∧wr .i64 a=a∧wr .i64 b=b ∧
 ((c=2∨c=3∨c=30∨c=31)->b=1)∧(4≤c∧c≤24->1≤a∧a≤3)∧(c=18->a=2)∧(c=30∨c=31->a=1):=by
 obtain⟨k,rfl⟩:=Int.eq_ofNat_of_zero_le h.1;have d:k<32:=aa
 match k,d with
 | 0,_=>exact⟨0,0,rfl,aF ab ab,aF ab ab,aa,aa,aa,aa⟩
 | 1,_=>exact⟨0,0,rfl,aF ab ab,aF ab ab,aa,aa,aa,aa⟩
 | 2,_=>exact⟨0,1,rfl,aF ab ab,aF ab ab,aa,aa,aa,aa⟩
 | 3,_=>exact⟨0,1,rfl,aF ab ab,aF ab ab,aa,aa,aa,aa⟩
 | 4,_=>exact⟨1,0,rfl,aF ab ab,aF ab ab,aa,aa,aa,aa⟩
 | 5,_=>exact⟨1,0,rfl,aF ab ab,aF ab ab,aa,aa,aa,aa⟩
 | 6,_=>exact⟨2,0,rfl,aF ab ab,aF ab ab,aa,aa,aa,aa⟩
 | 7,_=>exact⟨2,0,rfl,aF ab ab,aF ab ab,aa,aa,aa,aa⟩
 | 8,_=>exact⟨2,0,rfl,aF ab ab,aF ab ab,aa,aa,aa,aa⟩
 | 9,_=>exact⟨2,0,rfl,aF ab ab,aF ab ab,aa,aa,aa,aa⟩
 | 10,_=>exact⟨2,0,rfl,aF ab ab,aF ab ab,aa,aa,aa,aa⟩
 | 11,_=>exact⟨1,0,rfl,aF ab ab,aF ab ab,aa,aa,aa,aa⟩
 | 12,_=>exact⟨2,0,rfl,aF ab ab,aF ab ab,aa,aa,aa,aa⟩
 | 13,_=>exact⟨2,0,rfl,aF ab ab,aF ab ab,aa,aa,aa,aa⟩
 | 14,_=>exact⟨2,0,rfl,aF ab ab,aF ab ab,aa,aa,aa,aa⟩
 | 15,_=>exact⟨2,0,rfl,aF ab ab,aF ab ab,aa,aa,aa,aa⟩
 | 16,_=>exact⟨2,0,rfl,aF ab ab,aF ab ab,aa,aa,aa,aa⟩
 | 17,_=>exact⟨1,0,rfl,aF ab ab,aF ab ab,aa,aa,aa,aa⟩
 | 18,_=>exact⟨2,0,rfl,aF ab ab,aF ab ab,aa,aa,aa,aa⟩
 | 19,_=>exact⟨3,0,rfl,aF ab ab,aF ab ab,aa,aa,aa,aa⟩
 | 20,_=>exact⟨2,0,rfl,aF ab ab,aF ab ab,aa,aa,aa,aa⟩
 | 21,_=>exact⟨1,0,rfl,aF ab ab,aF ab ab,aa,aa,aa,aa⟩
 | 22,_=>exact⟨2,0,rfl,aF ab ab,aF ab ab,aa,aa,aa,aa⟩
 | 23,_=>exact⟨3,0,rfl,aF ab ab,aF ab ab,aa,aa,aa,aa⟩
 | 24,_=>exact⟨2,0,rfl,aF ab ab,aF ab ab,aa,aa,aa,aa⟩
 | 25,_=>exact⟨-1,0,rfl,aF ab ab,aF ab ab,aa,aa,aa,aa⟩
 | 26,_=>exact⟨0,0,rfl,aF ab ab,aF ab ab,aa,aa,aa,aa⟩
 | 27,_=>exact⟨0,0,rfl,aF ab ab,aF ab ab,aa,aa,aa,aa⟩
 | 28,_=>exact⟨0,0,rfl,aF ab ab,aF ab ab,aa,aa,aa,aa⟩
 | 29,_=>exact⟨0,0,rfl,aF ab ab,aF ab ab,aa,aa,aa,aa⟩
 | 30,_=>exact⟨1,1,rfl,aF ab ab,aF ab ab,aa,aa,aa,aa⟩
 | 31,_=>exact⟨1,1,rfl,aF ab ab,aF ab ab,aa,aa,aa,aa⟩
theorem Tu {k p q:Int}{v b:Bool}{s:List UInt8}(h:s.length<281474976710656):∃(t:Ty) (a:Bool),AE.ret (.ao [.agg [.int .i64 k,.int .i64 p,.int .i64 q,.bool v,.str s],.bool b])=AE.ret (.ao [t.av,.bool a]):=⟨⟨k,p,q,v,s,h⟩,b,rfl⟩
theorem Xy (c:Ck)(b u n o:Int)(p s:BL (List AV))(t:Ty):af 228 [c.av,.agg [i64 b,i64 u,i64 n,i64 o,.ak 11 p.l,.ak 14 s.l,i64 t.kind,i64 t.p,i64 t.q,.bool t.fw,.str t.ep]] (fun f=>∃(m:Int) (x:Bool),f = .ret (.ao [i64 m,.bool x])):=by
 refine zw func228 ?_;have i:=c.p.procs.h;have g:=c.p.dv.h;refine zg ?_
 repeat' ((first|(refine zp ?_ ?_<;>intro h)|(refine DC.pure rfl (SM c _) ?_;rintro _ (⟨q,rfl⟩|rfl))|(refine zh rfl (o3 _ _ mG) ?_;rintro _ (⟨rfl,a⟩|⟨rfl,a⟩)<;>simp only[length_map] at a)|(refine DC.pure rfl (K4 _ _) ?_;rintro _ ⟨j,rfl,e⟩))<;>refine zg ?_)
 all_goals exact⟨_,_,rfl⟩
theorem Ku (p:cR)(d:jo p.procs.l)(a b:Int)(e:a<p.procs.l.length):af 251 [p.av,i64 a,i64 b] (fun c=>(c = .ret (.bool true)∧1≤b∧b<p.procs.l.length)∨c = .ret (.bool false)):=by
 refine(Kt p d a b e).mono ?_
 simp_all
theorem Ff (f n:Int)(l:BL Ty):af 145 [i64 f,i64 n,iN l.l] (fun o=>∃(t:Ty) (b:Bool),o = .ret (.ao [t.av,.bool b])):=by
 refine zw func145 ?_;have y:=l.h;have d:wr .i64 ((l.l.length:Int) - 1)=(l.l.length:Int) - 1:=aF aa aa;have k:wr .i64 (((l.l.map Ty.cells).length:Int) - 1)=(l.l.length:Int) - 1:=by rw[length_map];exact d
 refine zk ?_
 repeat' ((first|(refine zp ?_ ?_<;>intro h)|refine ay.mk _ (cU aa) ?_|(refine DC.pure rfl (tc _ _ _) ?_;rintro _ (⟨rfl,c⟩|⟨rfl,c⟩))|(refine DC.pure rfl (Pk _) ?_;rintro _ ⟨v,rfl,p⟩)|(refine DC.pure rfl (wh _) ?_;rintro _ ⟨x,rfl,q⟩)|(refine DC.pure rfl (EW) ?_;rintro _ rfl)|(refine zh rfl (Nx _ (l.l[(0:Int).toNat]'aa) (l.l[(wr .i64 (((l.l.map Ty.cells).length:Int) - 1)).toNat]'aa)) ?_;rintro _ ⟨t,e,rfl⟩)|(refine DC.pure rfl (XR _ l) ?_;rintro _ ⟨t,e,rfl⟩)|(obtain⟨a,b,g,z,w,m,r,u,j⟩:=FD f aa;refine ay.mk _ g ?_;clear g)|refine zo ?_)<;>refine zk ?_)
 all_goals first|exact⟨t,_,rfl⟩|exact Tu (s:=[]) ab
end Go.Ago
namespace Go.Ago
open Go.Proofs List Nat Tryz
def uo:List (List UInt8):=[[],[78],[68,84,86],[68,65],[68,78,77,80],[65],[68,65,78],[68,65,66,78,77,80],[68,65,84],[65,66,84],[68,65,66,78,84,85,87],[68,65,84,85,83],[68,78,76,89,84,82],[68,65,66,78,85,87],[78],[65,78],[80,78],[68,78,76],[65],[78,80,77],[78,80],[78,80],[68,78,65,77],[65,66,77],[78],[78],[68,78],[80,78,70,76,89],[68,80,78,70,84,77],[68,80,65,85,84,77],[78,80,65,85,66,87],[65,66,78,77],[68,65,66,78],[68,65,66,78],[68],[68],[68],[],[68,65]]
def um:List AV:=uo.map .str
def hasB (a:Int)(c:UInt8):Bool:=decide (0≤a) && decide (a<39) && rC (uo.getD a.toNat []) c
theorem SB {a:Int}{c:UInt8}(h0:0≤a)(b:a<39):hasB a c=rC (uo.getD a.toNat []) c:=by
 unfold hasB
 grind
theorem Hm {a:Int}{c:UInt8}(b:39≤a):hasB a c=false:=by
 unfold hasB
 grind
theorem Hn {a:Int}{c:UInt8}(b:a<0):hasB a c=false:=by
 unfold hasB
 grind
theorem PU {cs:List AV}{n:Nat}(h:n<cs.length):chunk cs (n * 1) 1=some [cs[n]]:=by
 unfold chunk;rw[Nat.mul_one,ble_eq_true_of_le aa];have:(cs.drop n).take 1=[cs[n]]:=by
  rw[drop_eq_getElem_cons h];rfl
 rw[this]
theorem PT (a:Int)(h0:0≤a)(d:a<39):chunk um (a.toNat * vj.size) vj.size=some [.str (uo.getD a.toNat [])]:=by
 have c:a.toNat<uo.length:=by show a.toNat<39;omega
 have:=PU (cs:=um) (by simpa[um] using c)
 rw[show vj.size=1 from rfl,this]
 simp[um,c]
structure Kc where
 c:Cd
 proc:Int
 fK:0≤proc∧proc<c.b.l.length
 hlen:c.b.l.length=c.p.procs.l.length
 hp:jo c.p.procs.l
abbrev Kc.cells (k:Kc):List AV:=[mo k.c.p.procs.l,i64 k.c.p.static,nj k.c.p.image.l,p_ k.c.p.files.l,.ak 1 (k.c.p.conds.l.map fun s=>[.str s.l]),aU k.c.p.dv.l,vX k.c.b.l,i64 k.proc]
abbrev Kc.av (k:Kc):AV := .agg k.cells
def fj (k:Kc):Int:=(k.c.b.l[k.proc.toNat]'(by have:=k.fK;omega)).aj
def aL (k:Kc)(r:Int):Prop:=0≤r∧r≤fj k - 1
end Go.Ago
