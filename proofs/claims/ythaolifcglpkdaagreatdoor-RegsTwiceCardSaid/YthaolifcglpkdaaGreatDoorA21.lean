/-
  Part A21: lemmas, each with its own conditions.
-/
import Derived.Test.YthaolifcglpkdaaGreatDoorA20
set_option maxRecDepth 100000
set_option maxHeartbeats 0
set_option linter.all false
namespace Go.Ago
open Go.Proofs List Nat Tryz
attribute [local irreducible] bN bM aZ bK b_ wr bp bL comp DC DP DW DV DY
abbrev WJ (r:List UInt8):AV := .bq [.str r,.bool false,i64 r.length,i64 0,i64 0,.bool false,.ah,.int .u8 0,i64 0,.bool false,.int .u8 0,i64 0]
def ND (a:AE):Prop:=a = .ret (.ao [.dF,.bool false])∨(∃r:List UInt8,r.length≤32∧a = .ret (.ao [WJ r,.bool true]))∨(∃f:Fo,a = .ret (.ao [f.av,.bool true])∧py f)
theorem C0 (s:List UInt8)(g:s.length<281474976710656):af 190 [.str s] ND:=by
 refine zw func190 ?_;refine zg ?_
 repeat' ((first|(refine zp ?_ ?_<;>intro h)|(refine DC.pure rfl (Rj _ aa) ?_;rintro _ ⟨r,b,rfl,a⟩)|(refine DC.pure rfl (M9 _ _ (by have:=a bA;omega) ab (vN ab)) ?_;rintro _ rfl)|(refine DC.pure rfl (FY _ _ (by have:=a bA;omega) ab (a bA).2.2 (vN ab)) ?_;rintro _ rfl)|(refine DC.pure rfl (VZ _ (a bA).1 (a bA).2.1 (a bA).2.2) ?_;rintro _ (rfl|⟨f,rfl,e,d⟩)))<;>refine zg ?_)
 all_goals first|exact .inl rfl|exact .inr (.inl ⟨_,(a bA).1,rfl⟩)|exact .inr (.inr ⟨_,rfl,e⟩)
theorem QH (s:List UInt8)(p:s.length<281474976710656):af 242 [.str s] (fun m=>m = .ret (.ao [.dF,.bool false])∨(∃f:Fo,m = .ret (.ao [f.av,.bool true])∧py f)):=by
 refine zw func242 ?_
 conv=>whnf
 repeat' (refine DC.pure rfl (C0 _ p) ?_;rintro _ (rfl|⟨r,q,rfl⟩|⟨⟨l,e,i,a,d,b,h,g,first,c,n,j,t,u⟩,rfl,k⟩)<;>first|(obtain rfl:e=true:=k.num;conv=>whnf)|(conv=>whnf))
 all_goals first|exact .inl rfl|exact .inr ⟨_,rfl,k⟩
theorem Jj (s:List UInt8)(w:s.length<281474976710656):af 236 [.str s] (fun x=>∃(a:List UInt8) (b:Bool) (c d e:Int) (g:Bool) (n:Int),x = .ret (.ao [.agg [.str a,.bool b,i64 c,i64 d,i64 e,.bool g],i64 n])):=by
 refine zw func236 ?_
 conv=>whnf
 repeat' (refine DC.pure rfl (C0 _ w) ?_;rintro _ (rfl|⟨r,y,rfl⟩|⟨⟨q,k,l,f,j,h,m,o,first,i,u,p,z,A⟩,rfl,v⟩)<;>first|(obtain rfl:k=true:=v.num;conv=>whnf)|(conv=>whnf))
 all_goals exact⟨_,_,_,_,_,_,_,rfl⟩
theorem PL (s:List UInt8)(b:s.length<281474976710656):af 188 [.str s] (eX fun _=>True):=by
 refine zw func188 ?_;refine zg ?_
 repeat' ((refine DC.pure rfl (Jj _ b) ?_;rintro _ ⟨_,_,_,_,_,_,_,rfl⟩)<;>refine zg ?_)
 all_goals exact⟨_,rfl,trivial⟩
theorem DN {l:List Int}{i:Nat}(h:i<l.length):∃r:Int,(l.map fun n=>[i64 n])[((i:Nat):Int).toNat]? = some [i64 r]∧r∈l∧(r=2->wid (l.take (i+1))=wid (l.take i))∧(r≠2->wid (l.take (i+1))=wid (l.take i)+1) ∧
 (r=0->bj (l.take (i+1))=bj (l.take i)+1)∧(r=1->bj (l.take (i+1))=bj (l.take i)+1)∧(r≠0->r≠1->bj (l.take (i+1))=bj (l.take i))∧bj (l.take (i+1))≤bj l∧wid (l.take (i+1))≤wid l:=by
 have a:l.take (i+1)=l.take i++[l[i]]:=ag;have c:∀r,wid (l.take i++[r])=wid (l.take i)+wid [r]:=fun r=>by rw[wid,filter_append,length_append];rfl
 have b:∀r,bj (l.take i++[r])=bj (l.take i)+bj [r]:=fun r=>by rw[bj,filter_append,length_append];rfl
 refine⟨l[i],by simp[h],getElem_mem h,?_,?_,?_,?_,?_,?_,?_⟩
 . intro e;rw[a,c,e];rfl
 . intro e;rw[a,c,vo e]
 . intro e;rw[a,b,e];rfl
 . intro e;rw[a,b,e];rfl
 . intro e d;rw[a,b,ug e d];rfl
 all_goals exact((take_sublist _ _).filter _).length_le
structure En (l:List Int) where
 i:Nat
 k:Nat
 hi:i≤l.length
 hk:k≤bj (l.take i)
abbrev Jm (f:Fo)(b:List UInt8)(m:Bool)(u a c:Int):AV := .bq [f.av,.str b,.bool m,i64 u,i64 a,i64 c]
theorem Ga (f:Fo)(e:py f)(b:List UInt8)(s:b.length=bj f.cz)(m:Bool)(u a j:Int):af 287 [Jm f b m u a j] (fun g=>∃n:Int,g = .ret (i64 n)∧-1≤n∧n≤wid f.cz):=by
 refine zw func287 ?_;have w:=f.hr;have y:=e.d1;have o:=s_ f.cz;refine zg ?_
 repeat' ((first|(refine zp ?_ ?_<;>intro h)|(refine DC.pure rfl (M9 _ _ aa ab (vN ab)) ?_;rintro _ rfl))<;>refine zg ?_)
 all_goals
  refine DW.aO aC aD [0,2,3,4,5,6,23,24] [] 0 (fun i:Nat=>[(25,i64 i)]) (fun _=>[]) [] (fun i=>f.cz.length+1 - i) (0) ?_
  refine zl fun i=>?_
  refine zg ?_
  repeat' ((refine zp ?_ ?_<;>first|exact⟨⟩|intro h)<;>refine zg ?_)
  all_goals first|exact⟨_,rfl,aa,aa⟩|(refine⟨i+1,?_,rfl,?_⟩<;>first|(exact Ei)|omega)|skip
  refine DW.aO aC aD [0,2,5,46,47] [] 0 (fun x:En f.cz=>[(48,i64 x.i),(3,i64 (wid (f.cz.take x.i))),(4,i64 x.k)]) (fun _=>[]) [] (fun x=>f.cz.length+1 - x.i) (⟨0,0,aa,aa⟩) ?_
  refine zl fun x=>?_
  obtain⟨i,k,t,v⟩:=x;refine zk ?_
  repeat' ((first|(refine zp ?_ ?_<;>intro h)|(obtain⟨r,d,p,z,A,B,C,D,E,q⟩:=DN (l:=f.cz) (i:=i) aa;refine ay.mk _ d ?_;clear d))<;>refine zk ?_)
  all_goals first|exact⟨_,rfl,by(omega),by(first|omega|(dsimp only;omega))⟩|(refine⟨⟨i+1,k,aa,aa⟩,?_,rfl,?_⟩<;>first|(exact Ei)|(dsimp only;omega))|(refine⟨⟨i+1,k+1,aa,aa⟩,?_,rfl,?_⟩<;>first|(exact Ei)|(dsimp only;omega))
end Go.Ago
namespace Go.Ago
open Go.Proofs List Nat Tryz
attribute [local irreducible] bN bM aZ bK b_ wr bp bL comp DC DP DW DV
theorem PV (p:Nat)(h:p<20):∃n:Int,chunk uT (p * sZ.size) sZ.size=some [AV.int .u8 n]∧0≤n∧n<256:=by
 match p,h with
 | 0,_=>exact⟨_,rfl,ab,ab⟩
 | 1,_=>exact⟨_,rfl,ab,ab⟩
 | 2,_=>exact⟨_,rfl,ab,ab⟩
 | 3,_=>exact⟨_,rfl,ab,ab⟩
 | 4,_=>exact⟨_,rfl,ab,ab⟩
 | 5,_=>exact⟨_,rfl,ab,ab⟩
 | 6,_=>exact⟨_,rfl,ab,ab⟩
 | 7,_=>exact⟨_,rfl,ab,ab⟩
 | 8,_=>exact⟨_,rfl,ab,ab⟩
 | 9,_=>exact⟨_,rfl,ab,ab⟩
 | 10,_=>exact⟨_,rfl,ab,ab⟩
 | 11,_=>exact⟨_,rfl,ab,ab⟩
 | 12,_=>exact⟨_,rfl,ab,ab⟩
 | 13,_=>exact⟨_,rfl,ab,ab⟩
 | 14,_=>exact⟨_,rfl,ab,ab⟩
 | 15,_=>exact⟨_,rfl,ab,ab⟩
 | 16,_=>exact⟨_,rfl,ab,ab⟩
 | 17,_=>exact⟨_,rfl,ab,ab⟩
 | 18,_=>exact⟨_,rfl,ab,ab⟩
 | 19,_=>exact⟨_,rfl,ab,ab⟩
 | n+20,h=>exact absurd h aa
theorem I5 {p:Nat}{f:List AV->Prop}(h:p<20)(k:∀n:Int,0≤n->n<256->f [AV.int .u8 n]):ay (chunk uT (p * sZ.size) sZ.size) f:=by
 obtain⟨n,e,b,a⟩:=PV p h;exact ay.mk _ e (k n b a)
theorem yb (d:Int)(m:Bool):af 325 [i64 d,.bool m] (fun f=>∃(c:Int) (b:Bool),f = .ret (.ao [.int .u8 c,.bool b])):=by
 refine zw func325 ?_;refine zg ?_
 repeat' ((first|(refine Rq.mk (by(first|rfl|((try simp only[rz]);((rw[aF aa aa];omega))))) ?_)|(refine zp ?_ ?_<;>intro h)|(refine I5 (by(first|omega|(rw[aF aa aa];omega))) (fun m g e=>?_)))<;>refine zg ?_)
 all_goals exact⟨_,_,rfl⟩
theorem Nb (c:Int):af 284 [.int .u8 c] (fun d=>∃(n:Int) (x y:Bool),d = .ret (.ao [i64 n,.bool x,.bool y])∧0≤n∧n≤9):=by
 refine zw func284 ?_
 conv=>whnf
 refine DW.aO aC aD [0,2,3,4,7] [] 0 (fun i:Nat=>[(8,i64 i)]) (fun _=>[]) [] (fun i=>21 - i) (0) ?_
 refine zl fun i=>?_
 refine zg ?_
 repeat' ((first|(refine zp ?_ ?_<;>intro h)|refine I5 aa (fun m e b=>?_))<;>refine zg ?_)
 all_goals first|exact⟨_,_,_,rfl,ab,ab⟩|exact⟨_,_,_,rfl,by rw[Int.tmod_eq_emod_of_nonneg aa];omega,by rw[Int.tmod_eq_emod_of_nonneg aa];omega⟩|exact zi (i+1)
end Go.Ago
namespace Go.Ago
open Go.Proofs List Nat Tryz
attribute [local irreducible] bN bM aZ bK b_ wr bp bL comp DC DP DW DV DY
abbrev gB (n:Int):List AV:=[.int .u8 n]
structure Gu (l:List Int) where
 i:Nat
 acc:List Int
 hi:i≤l.length
 ha:acc.length=bj (l.take i)
 hd:∀n∈acc,48≤n∧n≤57
theorem A0 {n:Int}(h:48≤n∧n≤57):∀x∈[n],48≤x∧x≤57:=by simpa using h
theorem AZ {y:Int}{acc:List Int}{n:Int}(h:∀x∈y::acc,48≤x∧x≤57)(hn:48≤n∧n≤57):∀x∈y::(acc++[n]),48≤x∧x≤57:=by
 intro x hx;rw[<-cons_append,mem_append] at hx;rcases hx with hx|hx
 . exact h x hx
 . obtain rfl:=mem_singleton.1 hx;exact hn
theorem F1 {d:Int}(h:0≤d∧d≤9):48≤wr .u8 (48+wr .u8 d)∧wr .u8 (48+wr .u8 d)≤57:=by
 have h1:wr .u8 d=d:=D9 aa aa;have h2:wr .u8 (48+d)=48+d:=D9 aa aa;rw[h1,h2];omega
theorem QG {l:List Int}(h:∀n∈l,48≤n∧n≤57):tE (l.map fun n=>UInt8.ofNat n.toNat):=by
 intro b hb;obtain⟨n,hn,rfl⟩:=mem_map.1 hb;have:=h n hn;have h2:n.toNat<256:=aa;simp only[UInt8.toNat_ofNat'];omega
theorem Sx (f:Fo)(hf:py f)(s:List UInt8)(hs:(s.length:Int)=f.width):af 243 [f.av,.str s] (fun ae=>∃num:List UInt8,ae = .ret (.str num)∧num.length=bj f.cz∧tE num):=by
 refine zw func243 ?_;have hr:=f.hr;have hl:=hf.d1;have hw:=hf.w;have hwl:=s_ f.cz
 conv=>whnf
 refine DW.aO aC aD [1,4,16,17] [] 3000 (fun x:Gu f.cz=>[(18,i64 x.i),(6,i64 (wid (f.cz.take x.i))),(5,fc 1000 1 (x.acc.map gB))]) (fun x=>e_ 1000 1 (x.acc.map gB)) [(1000,.slot 5)] (fun x=>f.cz.length+1 - x.i) (⟨0,[],aa,rfl,ag⟩) ?_
 conv=>whnf
 refine⟨?_,fun x=>?_⟩
 . conv => whnf
   (exact nU)
 obtain⟨i,acc,hi,ha,hd⟩:=x;rcases acc with _|⟨y,acc⟩
 . skip
   refine zk ?_
   repeat' ((first|refine zf ?_|(refine zp ?_ ?_<;>first|exact⟨⟩|intro h)|(obtain⟨r,he,hrm,s1,s2,s3,s4,s5,s6,s7⟩:=DN (l:=f.cz) (i:=i) aa;refine ay.mk _ he ?_;clear he)|(refine DC.pure rfl (Nb _) ?_;rintro _ ⟨dg,x1,x2,rfl,hdg⟩))<;>refine zk ?_)
   all_goals first|(refine⟨⟨i+1,[],aa,gH,hd⟩,?_,rfl,?_⟩<;>first|((conv=>whnf);(exact nU);done)|omega|(dsimp only;omega))|(refine⟨⟨i+1,[((s.getD ((wid (f.cz.take i):Int)).toNat 0).toNat:Int)],aa,gH,A0 ⟨aa,aa⟩⟩,?_,rfl,?_⟩<;>first|((conv=>whnf);(exact nU);done)|omega|(dsimp only;omega))|(refine⟨⟨i+1,[wr .u8 (48+wr .u8 dg)],aa,gH,A0 (F1 hdg)⟩,?_,rfl,?_⟩<;>first|((conv=>whnf);(exact nU);done)|omega|(dsimp only;omega))|(refine⟨⟨i+1,[48],aa,gH,A0 ⟨aa,aa⟩⟩,?_,rfl,?_⟩<;>first|((conv=>whnf);(exact nU);done)|omega|(dsimp only;omega))|(exfalso;rw[take_of_length_le aa] at ha;simp only[length_nil] at ha;omega)|skip
 . simp only [length_cons] at ha
   have hdd:bj (f.cz.take i)≤bj f.cz:=((take_sublist _ _).filter _).length_le;refine zk ?_
   repeat' ((first|refine zf ?_|(refine Rq.mk (di 1 64 ag rfl rfl q9 ab) ?_)|(refine zp ?_ ?_<;>first|exact⟨⟩|intro h)|(obtain⟨r,he,hrm,s1,s2,s3,s4,s5,s6,s7⟩:=DN (l:=f.cz) (i:=i) aa;refine ay.mk _ he ?_;clear he)|(refine DC.pure rfl (Nb _) ?_;rintro _ ⟨dg,x1,x2,rfl,hdg⟩)|(refine ay.mk _ (by erw [vi ag];exact ud (l:=y::acc)) ?_))<;>refine zk ?_)
   all_goals first|(refine⟨⟨i+1,y::acc,aa,gH,hd⟩,?_,rfl,?_⟩<;>first|((conv=>whnf);(exact nU);done)|omega|(dsimp only;omega))|(refine⟨⟨i+1,y::(acc++[((s.getD ((wid (f.cz.take i):Int)).toNat 0).toNat:Int)]),aa,gH,AZ hd ⟨aa,aa⟩⟩,?_,rfl,?_⟩<;>first|((conv=>whnf);(exact nU);done)|omega|(dsimp only;omega))|(refine⟨⟨i+1,y::(acc++[wr .u8 (48+wr .u8 dg)]),aa,gH,AZ hd (F1 hdg)⟩,?_,rfl,?_⟩<;>first|((conv=>whnf);(exact nU);done)|omega|(dsimp only;omega))|(refine⟨⟨i+1,y::(acc++[48]),aa,gH,AZ hd ⟨aa,aa⟩⟩,?_,rfl,?_⟩<;>first|((conv=>whnf);(exact nU);done)|omega|(dsimp only;omega))|exact⟨_,rfl,(by rw[take_of_length_le aa] at ha;simpa using ha),QG hd⟩|skip
theorem F9 (n:Int):(Utf8.encode n).data.toList.length≤4:=by
 unfold Utf8.encode
 grind
abbrev xT (f:Fo)(b:List UInt8)(m:Bool)(u a c:Int):an := .arr 6 [[f.av,.str b,.bool m,i64 u,i64 a,i64 c]]
theorem WA {f:Fo}{b:List UInt8}{m:Bool}{u d a c e:Int}(h:u=d)(g:a=c):xT f b m u a e=xT f b m d c e:=by grind
theorem yt {r:Int}(h:0≤r∧r≤5):(r=0∧Mk 0)∨(r=1∧Mk 1)∨(r=2∧Mk 2)∨(r=3∧Mk 3)∨(r=4∧Mk 4)∨(r=5∧Mk 5):=by
 have b:=Mk.mk 0;have c:=Mk.mk 1;have d:=Mk.mk 2;have e:=Mk.mk 3;have f:=Mk.mk 4;have a:=Mk.mk 5
 grind
theorem yW {l:List Int}{i:Nat}(h:i<l.length):∃r:Int,(l.map fun n=>[i64 n])[((i:Nat):Int).toNat]? = some [i64 r]∧r∈l∧wid (l.take (i+1))=wid (l.take i)+wid [r]∧bj (l.take (i+1))=bj (l.take i)+bj [r]∧bj (l.take (i+1))≤bj l∧wid (l.take (i+1))≤wid l:=by
 have b:l.take (i+1)=l.take i++[l[i]]:=ag;have c:∀r,wid (l.take i++[r])=wid (l.take i)+wid [r]:=fun r=>by rw[wid,filter_append,length_append];rfl
 have a:∀r,bj (l.take i++[r])=bj (l.take i)+bj [r]:=fun r=>by rw[bj,filter_append,length_append];rfl
 exact⟨l[i],ag,getElem_mem h,by grind,by grind,((take_sublist _ _).filter _).length_le,((take_sublist _ _).filter _).length_le⟩
theorem E4 {l:List Int}{k n:Nat}{v:Int}(h:n=l.length):kC (List.take n (List.drop 0 ((l.map gB).set k [.int .u8 v])))=some [.str ((l.set k v).map fun n=>UInt8.ofNat n.toNat)]:=by
 have e:(l.map gB).set k [.int .u8 v]=(l.set k v).map gB:=ag;rw[e,h,vi ag];exact ud
theorem Wl {l:List Int}{k:Int}(h:k.toNat<l.length):(l.map gB)[k.toNat]? = some (gB l[k.toNat]):=ag
theorem Jb {y:Int}{acc:List Int}{k:Int}(h:k.toNat<(y::acc).length):(gB y::List.map gB acc)[0+k.toNat]? = some (gB ((y::acc)[k.toNat])):=by
 rw[Nat.zero_add];exact Wl h
theorem F4 (l:List Int):bj l≤wid l:=by
 unfold bj wid
 induction l<;>grind
theorem KT (f:Fo)(b:List UInt8)(m:Bool)(u a e c:Int):af 292 [Jm f b m u a e,.int .u8 c] (fun g=>∃n:Int,g = .ret (.int .u8 n)):=by
 refine zw func292 ?_;refine zg ?_
 repeat' ((refine zp ?_ ?_<;>first|exact⟨⟩|intro h)<;>refine zg ?_)
 all_goals exact⟨_,rfl⟩
structure Wr (l:List Int) where
 i:Nat
 acc:List Int
 u:Int
 hi:i≤l.length
 ha:acc.length=wid (l.take i)
 hu:0≤u∧u≤bj (l.take i)
theorem zao (f:Fo)(hf:py f)(num:List UInt8)(hn:num.length=bj f.cz):af 245 [f.av,.str num,.bool false] (fun ae=>∃(s:List UInt8) (n:Int),ae = .ret (.ao [.str s,i64 n])):=by
 refine zw func245 ?_;have hr:=f.hr;have hs:=f.hs;have hw:=hf.w;have hfl:=hf.l;have hwl:=s_ f.cz;have hdl:=hf.d1;have w0:wid [0]=1:=rfl;have w1:wid [1]=1:=rfl;have w2:wid [2]=0:=rfl;have w3:wid [3]=1:=rfl;have w4:wid [4]=1:=rfl;have w5:wid [5]=1:=rfl;have d0:bj [0]=1:=rfl;have d1:bj [1]=1:=rfl;have d2:bj [2]=0:=rfl;have d3:bj [3]=0:=rfl;have d4:bj [4]=0:=rfl;have d5:bj [5]=0:=rfl;have hfe:=F9 f.fill;have hwd:0≤f.width∧f.width≤1000:=aa;refine zg ?_
 repeat' ((first|(refine zp ?_ ?_<;>first|exact⟨⟩|intro h)|(refine DC.flat rfl (Ga f hf num hn _ 0 0 0) ?_;rintro _ ⟨ld,rfl,hld0,hld1⟩;refine⟨rfl,?_⟩)|(refine zh rfl (JV _ _ hfe hwd) ?_;rintro _ rfl))<;>refine zg ?_)
 all_goals first|exact⟨_,_,rfl⟩|skip
 refine DW.aO aC aD [0,2,6,7,8,9,49,50] [6] 3000 (fun x:Wr f.cz=>[(51,i64 x.i),(10,fc 1000 1 (x.acc.map gB))]) (fun x=>(6,xT f num false x.u (wid (f.cz.take x.i)) ld)::e_ 1000 1 (x.acc.map gB)) [(1000,.slot 10)] (fun x=>f.cz.length+1 - x.i) (⟨0,[],0,aa,rfl,ag⟩) ?_
 conv=>whnf
 refine⟨?_,fun x=>?_⟩
 . conv => whnf
   (exact Ec)
 obtain⟨i,acc,u,hi,ha,hu⟩:=x;have hu1:wr .i64 (u+1)=u+1:=aF tj tj;have hu2:wr .i64 (u+1 - 1)=u:=by rw[aF aa tj];omega
 have hful:i=f.cz.length->wid (f.cz.take i)=wid f.cz:=fun h=>by rw[take_of_length_le aa]
 have hdw:=F4 f.cz;rcases acc with _|⟨y,acc⟩
 . simp only [length_nil] at ha
   refine zk ?_
   repeat' ((first|refine zf ?_|(refine Rq.mk (by simp only[hu1,hu2,hZ,decide_eq_true_eq];omega) ?_)|(refine zp ?_ ?_<;>first|exact⟨⟩|intro h)|(obtain⟨r,he,hrm,s1,s2,s6,s7⟩:=yW (l:=f.cz) (i:=i) aa;refine ay.mk _ he ?_;clear he;rcases yt (hf.r r hrm) with⟨rfl,mk9⟩|⟨rfl,mk9⟩|⟨rfl,mk9⟩|⟨rfl,mk9⟩|⟨rfl,mk9⟩|⟨rfl,mk9⟩)|refine zd func289 ?_|refine zd func290 ?_|refine zd func291 ?_|refine zd func292 ?_|refine zd func293 ?_|(have mk7:=Mk.mk 7;refine zd func324 ?_)|(refine DC.pure rfl (yb _ _) ?_;rintro _ ⟨pc,pb,rfl⟩))<;>refine zk ?_)
   all_goals first|(rename Mk 2=>m9;refine⟨⟨i+1,[],u,aa,gH,aa⟩,kV,rfl,dC⟩)|(rename Mk 7=>m7;refine⟨⟨i+1,[_],u+1,aa,gH,aa⟩,kV,rfl,dC⟩)|(refine⟨⟨i+1,[_],u,aa,gH,aa⟩,kV,rfl,dC⟩)
 . simp only [length_cons] at ha
   have hldw:wr .i64 (ld - 1)=ld - 1:=aF aa aa;refine zj ?_
   repeat' ((first|refine zf ?_|(refine Rq.mk (di 1 64 ag rfl rfl q9 ab) ?_)|(refine Rq.mk (by simp only[hu1,hu2,hZ,decide_eq_true_eq];omega) ?_)|(refine Rq.mk (by rw[hldw];simp only[hZ,length_map,decide_eq_true_eq];omega) ?_;rw[hldw])|(refine Rq.mk (by simp only[length_set,length_cons,length_map,ble_eq];omega) ?_)|refine zq ?_|(refine zp ?_ ?_<;>first|exact⟨⟩|intro h)|(obtain⟨r,he,hrm,s1,s2,s6,s7⟩:=yW (l:=f.cz) (i:=i) aa;refine ay.mk _ he ?_;clear he;rcases yt (hf.r r hrm) with⟨rfl,mk9⟩|⟨rfl,mk9⟩|⟨rfl,mk9⟩|⟨rfl,mk9⟩|⟨rfl,mk9⟩|⟨rfl,mk9⟩)|(refine ay.mk _ (by erw [vi ag];exact ud (l:=y::acc)) ?_)|refine ay.mk _ (E4 (l:=y::acc) ag) ?_|(erw [Jb (y:=y) (acc:=acc) (k:=ld - 1) (by simp only[length_cons];omega)])|refine zd func289 ?_|refine zd func290 ?_|refine zd func291 ?_|refine zd func292 ?_|refine zd func293 ?_|(have mk7:=Mk.mk 7;refine zd func324 ?_)|(refine DC.pure rfl (yb _ _) ?_;rintro _ ⟨pc,pb,rfl⟩)|(refine DV.flat rfl (KT f num _ _ _ _ _) ?_;rintro _ ⟨n9,rfl⟩;refine⟨_,rfl,rfl,?_⟩))<;>refine zj ?_)
   all_goals first|(rename Mk 2=>m9;refine⟨⟨i+1,y::acc,u,aa,gH,aa⟩,kV,rfl,dC⟩)|(rename Mk 7=>m7;refine⟨⟨i+1,y::(acc++[_]),u+1,aa,gH,aa⟩,kV,rfl,dC⟩)|(refine⟨⟨i+1,y::(acc++[_]),u,aa,gH,aa⟩,kV,rfl,dC⟩)|exact⟨_,_,rfl⟩
end Go.Ago
