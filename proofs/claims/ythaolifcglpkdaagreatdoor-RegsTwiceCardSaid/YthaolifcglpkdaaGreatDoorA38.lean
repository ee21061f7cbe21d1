/-
  Part A38: lemmas, each with its own conditions.
-/
import Derived.Ground.SlmcProg
import Derived.Shelf.SlGeneric
import Derived.Shelf.SlMaps.Clone
import Derived.Test.YthaolifcglpkdaaGreatDoorA34
import Derived.Test.YthaolifcglpkdaaGreatDoorA37
set_option maxRecDepth 100000
set_option maxHeartbeats 0
set_option linter.all false
namespace Go.Ago
open Go.Proofs List Nat Tryz
attribute [local irreducible] bN bM aZ bK b_ wr bp bL comp DC DP DW DV
abbrev aI.av (s:aI):AV := .agg (aq s.all s.l)
theorem rX (s:aI)(hi:a_ s.l)(d:s.l.length≤100000)(r:Int):af 66 [s.av,i64 r] (fun c=>c = .ret (.bool (s.has r))):=by
 refine zw func66 ?_;refine zg ?_
 repeat' ((first|(refine zp ?_ ?_<;>intro h)|(refine DC.pure rfl (De s.l hi r d) ?_;rintro _ ⟨n,b,rfl,e,rfl⟩))<;>refine zg ?_)
 all_goals (congr 2;simp[aI.has, *])
theorem Tg {l:List Int}(hi:a_ l){r:Int}{n:Nat}(f:j5 l r n)(p:r∉l):iD l n r=jL l r:=by
 refine a_.ext ?_ (oC hi) fun x=>?_
 . unfold iD a_
   have q:a_ (l.take n):=Pairwise.sublist (take_sublist n l) hi;have k:a_ (l.drop n):=Pairwise.sublist (drop_sublist n l) hi;refine pairwise_append.2 ⟨q,pairwise_cons.2 ⟨fun y m=>?_,k⟩,fun a o b d=>?_⟩
   . obtain ⟨i, h, rfl⟩ := mem_iff_getElem.1 m
     rw[getElem_drop];have c:n+i<l.length:=by rw[length_drop] at h;omega
     have:=f.hi (n+i) c aa;have:l[n+i]≠r:=fun e=>p (by rw[<-e];exact getElem_mem c)
     omega
   . obtain ⟨i, h, rfl⟩ := mem_iff_getElem.1 o
     have c:i<n∧i<l.length:=by rw[length_take] at h;omega
     rw[getElem_take];have s:=f.lo i c.2 c.1;rcases mem_cons.1 d with rfl|d
     . exact s
     . obtain ⟨j, t, rfl⟩ := mem_iff_getElem.1 d
       rw[getElem_drop];have g:n+j<l.length:=by rw[length_drop] at t;omega
       have:=f.hi (n+j) g aa;omega
 . rw [ia]
   unfold iD;rw[mem_append,mem_cons];have:x∈l↔x∈l.take n∨x∈l.drop n:=by rw[<-mem_append,take_append_drop]
   grind
theorem pos_at {l:List Int}{r:Int}{n:Nat}(hi:a_ l)(b:j5 l r n)(c:r∈l):∃h:n<l.length,l[n]=r:=by
 by_cases h:∃h:n<l.length,l[n]=r
 . exact h
 exact absurd c (b.no hi fun a e=>h ⟨a,e⟩)
theorem QA {l:List Int}(hi:a_ l){r:Int}{n:Nat}(d:j5 l r n)(g:r∈l):iz l n=l.filter fun x=>!decide (x=r):=by
 obtain⟨f,e⟩:=pos_at hi d g;refine a_.ext ?_ (hi.filter _) fun x=>?_
 . unfold iz
   refine Pairwise.sublist ?_ hi
   conv=>rhs;rw[<-take_append_drop n l]
   grind
 . rw [mem_filter]
   unfold iz;rw[mem_append];have j:x∈l↔x∈l.take n∨x=r∨x∈l.drop (n+1):=by
    conv=>lhs;rw[<-take_append_drop n l,drop_eq_getElem_cons f,e]
    rw[mem_append,mem_cons]
   have k:r∉l.take n:=fun h=>by
    obtain⟨i,a,c⟩:=mem_iff_getElem.1 h;rw[getElem_take] at c;have b:i<n∧i<l.length:=by rw[length_take] at a;omega
    have:=d.lo i b.2 b.1;omega
   have a:r∉l.drop (n+1):=fun h=>by
    obtain⟨i,a,c⟩:=mem_iff_getElem.1 h;rw[getElem_drop] at c;have b:n+1+i<l.length:=by rw[length_drop] at a;omega
    have:=xe hi b (show n<n+1+i by omega)
    omega
   grind
theorem Kr (l:List Int)(a:a_ l)(r:Int)(f:l.length≤100000):af 90 [aU l,i64 r] (fun e=>∃(n:Nat) (b:Bool),e = .ret (.ao [i64 n,.bool b])∧n≤l.length∧(n<l.length∨l.length≤n)∧j5 l r n∧b=decide (r∈l)):=by
 refine(De l a r f).mono ?_
 rintro _ ⟨n,b,rfl,c,d⟩
 exact⟨n,b,rfl,c.le,Nat.lt_or_ge _ _,c,d⟩
theorem Im {H:ai}{n:Nat}:∀{l:List Int},aM (aM (snap H (n+1))) (l.map ic)=some (l.map ic):=fun {l}=>sn (by intro x a;obtain⟨y,_,rfl⟩:=mem_map.1 a;rfl)
theorem A3 {H:ai}{K m:Nat}{b:Bool}{es:List (List AV)}{l t:List Int}(c:H.get K=some (.arr 1 es))(d:es=(l++t).map ic)(a:m=l.length):snap H 20 (.agg [.bool b,.az K 0 m 1])=some (.agg (aq b l)):=by
 subst d;subst a;refine sU (jQ rfl (jQ (qS c ag ?_) rfl));rw[drop_zero,map_append,take_append_of_le_length ag,take_of_length_le ag];exact Im
theorem Tf {l:List Int}{r:Int}{n:Nat}(h:l.length≤n):iD l n r=l++[r]:=by
 unfold iD;rw[take_of_length_le h,drop_eq_nil_of_le h]
theorem SA (r:Int):af 66 [.agg (aq true []),i64 r] (fun b=>b = .ret (.bool true)):=by
 have:=rX ⟨true,[]⟩ a_.nil (ag) r
 simpa[aI.has] using this
theorem Sz (r:Int):af 66 [.agg (aq false []),i64 r] (fun b=>b = .ret (.bool false)):=by
 have:=rX ⟨false,[]⟩ a_.nil (ag) r
 simpa[aI.has] using this
theorem XZ (r:Int):af 90 [aU [],i64 r] (fun c=>c = .ret (.ao [i64 0,.bool false])):=by
 refine(De _ a_.nil r (ag)).mono ?_
 rintro _ ⟨n,b,rfl,a,rfl⟩
 obtain rfl:n=0:=le_zero.1 a.le;rfl
theorem zai (r:Int):af 170 [.agg (aq true []),i64 r] (fun b=>b = .ret (.agg (aq true [r]))):=by
 refine zw func170 ?_;refine zg ?_
 repeat' ((first|refine zf ?_|(refine zp ?_ ?_<;>first|exact⟨⟩|intro h)|(refine DC.pure rfl (SA r) ?_;rintro _ rfl)|(refine DC.pure rfl (XZ r) ?_;rintro _ rfl)|(refine DC.pure rfl (FG) ?_;rintro _ rfl)|refine zd func207 ?_)<;>refine zg ?_)
 all_goals rfl
theorem zah (r:Int):af 170 [.agg (aq false []),i64 r] (fun b=>b = .ret (.agg (aq false []))):=by
 have k1:=Sz r;exact zw func170 W
theorem HQ {l:List Int}:((l.map fun n=>[i64 n]).all fun e=>e.all AV.one)=true:=by
 rw[all_map,all_eq_true];intro x _;rfl
theorem HP {b a:Nat}(h:b≤200000)(c:a=8):ble (b * (a+1)) 140737488355328=true:=by
 subst c;exact ble_eq_true_of_le aa
theorem T9 {i len c a b:Nat}(e:i+len≤c)(d:b=8)(f:len+a≤200000):(ble (i+len) c && ble ((len+a) * (b+1)) 140737488355328)=true:=by
 subst d;rw[ble_eq_true_of_le e,ble_eq_true_of_le aa];rfl
theorem Nh {b:Bool}{l:List Int}{r:Int}{n:Nat}(hi:a_ l)(c:j5 l r n)(a:r∉l)(d:b=true):AE.ret (.agg [.bool true,.ak 1 ((iD l n r).map ic)])=AE.ret ((aI.mk b l).wo r).av:=by
 have h:(aI.mk true l).has r=true:=by simp[aI.has,a]
 rw[Tg hi c a];unfold aI.wo
 grind
theorem zak {a:Bool}{l:List Int}{r:Int}{n:Nat}(hi:a_ l)(c:j5 l r n)(d:r∉l)(e:a=true)(b:l.length≤n):AE.ret (.agg (aq true (l++[r])))=AE.ret ((aI.mk a l).wo r).av:=by
 rw[<-Tf b];exact Nh hi c d e
theorem zal {b:Bool}{l:List Int}{r:Int}{n:Nat}(hi:a_ l)(c:j5 l r n)(a:r∈l)(d:b=false):AE.ret (.agg (aq false (iz l n)))=AE.ret ((aI.mk b l).wo r).av:=by
 have h:(aI.mk false l).has r=true:=by simp[aI.has,a]
 rw[QA hi c a];unfold aI.wo
 grind
theorem zam {s:aI}{r:Int}(h:s.has r=false):AE.ret s.av=AE.ret (s.wo r).av:=by
 unfold aI.wo
 grind
theorem zaj (g:Bool)(y:Int)(ys:List Int)(hi:a_ (y::ys))(j:(y::ys).length≤100000)(r:Int):af 170 [.agg (aq g (y::ys)),i64 r] (fun p=>p = .ret ((aI.mk g (y::ys)).wo r).av):=by
 have w:(y::ys).length=ys.length+1:=length_cons;refine zw func170 ?_;refine zg ?_
 repeat' ((first|refine zf ?_|refine Br.t (b:=beq _ _) rfl ?_|(refine Rq.mk (T9 q_ aB q_) ?_)|refine Rq.mk HQ ?_|(refine Rq.mk (HP (by simp only[length_map,length_cons] at *;omega) aB) ?_)|(refine zp ?_ ?_<;>first|exact⟨⟩|intro h)|(refine DC.pure rfl (rX ⟨g,y::ys⟩ hi j r) ?_;rintro _ rfl)|(refine zh rfl (rX ⟨g,y::ys⟩ hi j r) ?_;rintro _ rfl)|(refine DC.pure rfl (Kr (y::ys) hi r j) ?_;rintro _ ⟨n,b,rfl,e,(f|d),i,rfl⟩)|(refine zh rfl (Kr (y::ys) hi r j) ?_;rintro _ ⟨n,b,rfl,e,(f|d),i,rfl⟩)|(have m:=f;refine Tn (y::ys) r n m j ag aB rfl rfl ab ?_)|(have m:=d;refine zd func207 ?_)|refine zd func16 ?_|(refine DC.Bn (k:=_) (QD (y::ys) n (by obtain⟨m,_⟩:=pos_at hi i bA;exact m) ag aB (by rw[aF aa aa];omega)) rfl rfl rfl (kI (l:=y::ys)) ?_;rintro _ x _ ⟨rfl,u⟩;refine⟨_,_,_,rfl,_,u,kI,?_⟩)|refine zo ?_)<;>refine zg ?_)
 all_goals first
  | (exfalso;simp_all[aI.has];done)
  | (refine Nh hi i ?_ ?_<;>assumption)
  | (refine zam (s:=⟨g,y::ys⟩) ?_;assumption)
  | (generalize c : snap _ _ _ = q
     obtain rfl:=c.symm.trans (A3 (l:=iz (y::ys) n) (t:=[0]) rfl rfl rfl);refine zal hi i ?_ ?_<;>assumption)
  | (generalize c : snap _ _ _ = q
     have o:=fun v=>c.symm.trans (A3 (l:=(y::ys)++[r]) (t:=[]) rfl v ag)
     obtain rfl:=o (by simp;exact⟨take_of_length_le ag,rfl⟩)
     refine zak hi i ?_ ?_ ?_<;>assumption)
theorem Ng (s:aI)(hi:a_ s.l)(e:s.l.length≤100000)(r:Int):af 170 [s.av,i64 r] (fun c=>c = .ret (s.wo r).av):=by
 obtain⟨b,l⟩:=s;cases l with
 | nil =>
   cases b
   . exact zah r
   exact zai r
 | cons y f=>exact zaj _ y _ hi e r
def tF (a b:List Int)(n:Nat):Prop:=∀(i:Nat) (h:i<a.length) (c:i<b.length),i<n->a[i]=b[i]
theorem tF.step {a b:List Int}{n:Nat}(h:tF a b n)(d:n<a.length)(f:n<b.length)(e:a[n]=b[n]):tF a b (n+1):=fun i g j k=>by
 by_cases c:i=n
 . grind
 exact h i _ _ aa
theorem Rg {a b:List Int}{n:Nat}(h:tF a b n)(c:a.length=b.length)(e:a.length≤n):AE.ret (.bool true)=AE.ret (.bool (decide (a=b))):=
 congrArg (fun b=>AE.ret _) (decide_eq_true (ext_getElem c fun i f d=>h i _ _ aa)).symm
theorem Rf {a b:List Int}{n:Nat}(d:n<a.length)(f:n<b.length)(e:¬a[n]=b[n]):AE.ret (.bool false)=AE.ret (.bool (decide (a=b))):=
 congrArg (fun b=>AE.ret _) (decide_eq_false fun c=>e (by grind)).symm
theorem Rh (a b:List Int)(l:a.length≤100000)(j:b.length≤100000):af 24 [aU a,aU b] (fun f=>f = .ret (.bool (decide (a=b)))):=by
 refine zw func24 ?_;refine zg ?_
 repeat' ((refine zp ?_ ?_<;>intro h)<;>refine zg ?_)
 rotate_left
 . refine congrArg (fun b => AE.ret (AV.bool b)) (decide_eq_false (p := a = b) fun e => ?_).symm
   subst e;omega
 refine DW.aO aC aD [0,1,4,12] [] 0 (fun x:{x:Nat // tF a b x}=>[(13,i64 x.1)]) (fun _=>[]) [] (fun x=>a.length+1 - x.1) (⟨0,fun i h k g=>absurd g (not_lt_zero _)⟩) ?_
 refine zl fun x=>?_
 have c:=x.2;refine zg ?_
 repeat' ((refine zp ?_ ?_<;>intro h)<;>refine zg ?_)
 . refine ⟨⟨x.1 + 1, c.step aa aa bA⟩, ?_, rfl, bG⟩
   conv=>whnf
   (exact q0)
 . refine Rf (n:=x.1) ?_ ?_ ?_<;>first|assumption|omega
 . refine Rg c ?_ ?_<;>omega
theorem Kl (s t:aI)(b:s.l.length≤100000)(c:t.l.length≤100000):af 168 [s.av,t.av] (fun d=>d = .ret (.bool (s.same t))):=by
 obtain⟨e,l⟩:=s;obtain⟨f,m⟩:=t;refine zw func168 ?_;refine zg ?_
 repeat' ((first|(refine zp ?_ ?_<;>intro h)|(refine DC.pure rfl (Rh l m b c) ?_;rintro _ rfl))<;>refine zg ?_)
 all_goals (congr 2;simp[aI.same, *])
theorem Is (o:aI)(hi:a_ o.l)(b:o.l.length≤100000)(r:Int):af 205 [i64 r,.bq (aq o.all o.l)] (fun c=>c = .ret (.bool (!(o.has r)))):=by
 have k1:=rX o hi b r;exact zw func205 W
structure lU (o:aI)(l:List Int)(n:Nat):Prop where
 le:n≤l.length
 lo:∀(i:Nat) (h:i<l.length),i<n->o.has l[i]=true
theorem lU.step {o:aI}{l:List Int}{n:Nat}(h:lU o l n)(a:n<l.length)(e:o.has l[n]=true):lU o l (n+1):=⟨a,fun i c d=>by
 by_cases b:i=n
 . grind
 exact h.lo i _ aa⟩
theorem Tb (o:aI)(hi:a_ o.l)(e:o.l.length≤100000)(l:List Int)(g:l.length≤100000):af 93 [aU l,.fn (.func 205) [] [.bq (aq o.all o.l)]] (fun d=>∃n:Int,d = .ret (i64 n)∧((n = -1∧lU o l l.length)∨∃m:Nat,n=(m:Int)∧lU o l m∧∃h:m<l.length,o.has l[m]=false)):=by
 refine zw func93 ?_
 conv=>whnf
 refine DW.aO aC aD [0,1,4,7] [] 0 (fun x:{x:Nat // lU o l x}=>[(8,i64 x.1)]) (fun _=>[]) [] (fun x=>l.length+1 - x.1) (⟨0,zero_le _,fun i h f=>absurd f (not_lt_zero _)⟩) ?_
 refine zl fun x=>?_
 have a:=x.2;have c:=a.le;refine zg ?_
 repeat' ((first|(refine zp ?_ ?_<;>intro h)|(refine DC.pure rfl (Is o hi e (l[x.1]'aa)) ?_;rintro _ rfl))<;>refine zg ?_)
 . exact⟨_,rfl,.inr ⟨x.1,rfl,a,aa,by assumption⟩⟩
 . refine ⟨⟨x.1 + 1, a.step aa bA⟩, ?_, rfl, bG⟩
   conv=>whnf
   (exact q0)
 . exact⟨-1,rfl,.inl ⟨rfl,⟨Nat.le_refl _,fun i h _=>a.lo i h aa⟩⟩⟩
def eg (o:aI)(l:List Int)(n:Nat):List Int:=(l.take n).filter o.has
def eQ (o:aI)(l:List Int)(n:Nat):List Int:=eg o l n++l.drop (eg o l n).length
theorem Bv {o:aI}{l:List Int}{n:Nat}:(eg o l n).length≤n:=by
 unfold eg
 grind
theorem GX {o:aI}{l:List Int}{n:Nat}:(eg o l n).length≤l.length:=by
 unfold eg
 grind
theorem Iy {o:aI}{l:List Int}{n:Nat}:(eQ o l n).length=l.length:=by
 have:=@GX o l n;unfold eQ
 grind
theorem GY {o:aI}{l:List Int}{n:Nat}(h:n<l.length)(e:o.has l[n]=true):eg o l (n+1)=eg o l n++[l[n]]:=by
 unfold eg;rw[take_succ_eq_append_getElem h,filter_append,filter_cons_of_pos e];rfl
theorem Bt {o:aI}{l:List Int}{n:Nat}(h:n<l.length)(e:o.has l[n]=false):eg o l (n+1)=eg o l n:=by
 unfold eg;rw[take_succ_eq_append_getElem h,filter_append,filter_cons_of_neg (by grind)];simp
theorem Vm {o:aI}{l:List Int}{n:Nat}(h:n<l.length)(b:n<(eQ o l n).length):(eQ o l n)[n]=l[n]:=by
 have a:=@Bv o l n;have e:(eQ o l n)[n]? = some l[n]:=by
  unfold eQ;rw[getElem?_append_right a,getElem?_drop,show(eg o l n).length+(n - (eg o l n).length)=n by omega,getElem?_eq_getElem h]
 grind
theorem Vs {o:aI}{l:List Int}{n:Nat}(h:n<l.length)(e:o.has l[n]=true):eQ o l (n+1)=(eQ o l n).set (eg o l n).length l[n]:=by
 have a:=@Bv o l n;unfold eQ;rw[GY h e,set_append_right _ _ (ag),Nat.sub_self,append_assoc,length_append];rw[drop_eq_getElem_cons (show(eg o l n).length<l.length by omega)]
 rfl
theorem Ix {o:aI}{l:List Int}{n:Nat}(h:n<l.length)(e:o.has l[n]=false):eQ o l (n+1)=eQ o l n:=by
 unfold eQ;rw[Bt h e]
theorem Bu {o:aI}{l:List Int}{n:Nat}(h:lU o l n):eg o l n=l.take n:=filter_eq_self.2 fun x b=>by
 obtain⟨i,c,rfl⟩:=mem_iff_getElem.1 b;rw[getElem_take];have a:i<n∧i<l.length:=by grind
 exact h.lo i _ a.1
theorem Vn {o:aI}{l:List Int}{n:Nat}(h:lU o l n):eQ o l n=l:=by
 unfold eQ;rw[Bu h,length_take,Nat.min_eq_left h.le,take_append_drop]
theorem lU.all {o:aI}{l:List Int}(h:lU o l l.length):l.filter o.has=l:=by
 have:=Bu h;unfold eg at *
 grind
theorem Vr {ρ:Nat->Nat}{o:aI}{l:List Int}{n:Nat}(h:eQ o l n=l):an.arr 1 (l.map ic)=an.cp ρ (.arr 1 ((eQ o l n).map ic)):=by rw[h];exact gE rfl
theorem Cm {k:Nat}{o:aI}{l:List Int}{n:Nat}:an.lt k (.arr 1 ((eQ o l n).map ic)):=mc
theorem Vp {o:aI}{l:List Int}{n:Nat}(h:n<l.length):((eQ o l n).map ic)[0+((n:Int)).toNat]? = some (ic l[n]):=by
 have a:n<(eQ o l n).length:=by rw[Iy];exact h
 rw[Nat.zero_add,Int.toNat_natCast,getElem?_map,getElem?_eq_getElem a,Vm h _];rfl
theorem Vo {ρ:Nat->Nat}{o:aI}{l:List Int}{n j:Nat}{es:List (List AV)}(h:n<l.length)(e:o.has l[n]=true)(b:j=(eg o l n).length)(a:es=((eQ o l n).map ic).set j [i64 l[n]]):an.arr 1 es=an.cp ρ (.arr 1 ((eQ o l (n+1)).map ic)):=by
 subst b;subst a;refine gE ?_;rw[Vs h e,map_set]
theorem Vq {ρ:Nat->Nat}{o:aI}{l:List Int}{n:Nat}(h:n<l.length)(e:o.has l[n]=false):an.arr 1 ((eQ o l n).map ic)=an.cp ρ (.arr 1 ((eQ o l (n+1)).map ic)):=by rw[Ix h e];exact gE rfl
theorem R7 {o:aI}{l:List Int}{n:Nat}(h:n<l.length)(e:o.has l[n]=true)(a:l.length≤100000):wr .i64 (((eg o l n).length:Int)+1)=((eg o l (n+1)).length:Int):=by
 have:=@GX o l n;rw[aF aa aa,GY h e,length_append];rfl
theorem R8 {o:aI}{l:List Int}{n:Nat}(h:n<l.length)(e:o.has l[n]=false):((eg o l n).length:Int)=((eg o l (n+1)).length:Int):=by rw[Bt h e]
theorem GW {o:aI}{l:List Int}{n:Nat}(h:l.length≤n):eg o l n=l.filter o.has:=by unfold eg;rw[take_of_length_le h]
theorem Qh {o:aI}{l:List Int}{n:Nat}(b:l.length≤n):List.take (0+((eg o l n).length:Int).toNat) ((eQ o l n).map ic)++replicate ((l.length:Int).toNat - ((eg o l n).length:Int).toNat) [i64 0]++List.drop (0+((eg o l n).length:Int).toNat+((l.length:Int).toNat - ((eg o l n).length:Int).toNat)) ((eQ o l n).map ic)=((l.filter o.has)++replicate (l.length - (l.filter o.has).length) 0).map ic:=by
 have a:=GW (o:=o) b;rw[<-a];unfold eQ;simp
theorem QE (o:aI)(hi:a_ o.l)(g:o.l.length≤100000)(l:List Int)(p:l≠[])(i:l.length≤100000):c9 63 [.az 0 0 l.length 1,.fn (.func 205) [] [.ptr 1 0 0]] (.put 0 (some (.arr 1 (l.map ic))) (.put 1 (some (.arr 2 [aq o.all o.l])) .nil)) 2
 (fun q H' _=>∃t:List Int,q = .ret (.az 0 0 (l.filter o.has).length 1)∧H'.get 0=some (.arr 1 ((l.filter o.has++t).map ic))∧H'.get 1=some (.arr 2 [aq o.all o.l])):=by
 refine zd func63 ?_;refine zg ?_
 repeat' ((first|(refine zp ?_ ?_<;>first|exact⟨⟩|intro h)|(refine DC.flat (args':=[aU l,.fn (.func 205) [] [.bq (aq o.all o.l)]]) (jQ (Dt (f:=ic) (n:=19) (l:=l) (fun _=>rfl) rfl) (jQ rfl rfl)) (Tb o hi g l i) ?_;rintro _ ⟨n,rfl,⟨rfl,hid⟩|⟨m,rfl,hid,j,b⟩⟩<;>refine⟨rfl,?_⟩))<;>refine zg ?_)
 . exact⟨[],by rw[hid.all],by rw[hid.all,append_nil];rfl,rfl⟩
 have c:eg o l (m+1)=l.take m:=(Bt j b).trans (Bu hid);have d:((eg o l (m+1)).length:Int)=(m:Int):=by rw[c,length_take,Nat.min_eq_left aa]
 have e:eQ o l (m+1)=l:=(Ix j b).trans (Vn hid);refine DW.aO aC aD [0,1,4] [0] 0 (fun x:{x:Nat // m+1≤x∧x≤l.length}=>[(6,i64 x.1),(5,i64 (eg o l x.1).length)]) (fun x=>[(0,.arr 1 ((eQ o l x.1).map ic))]) [] (fun x=>l.length+1 - x.1) (⟨m+1,aa,aa⟩) ?_
 conv=>whnf
 refine⟨?_,fun x=>?_⟩
 . conv => whnf
   (repeat' first|exact True.intro|apply And.intro|rfl|exact Vr e|exact Cm|exact congrArg (AV.int .i64) d.symm|(refine cw ?_ ?_ ?_<;>(try dsimp only)<;>omega))
 have r:=x.2.1;have s:=x.2.2;have u:=@Bv o l x.1;have v:=@Iy o l x.1;refine zk ?_
 repeat' ((first|(refine zp ?_ ?_<;>intro h)|refine cb (Vp (n:=x.1) aa) ?_|refine cb (fh (l:=eQ o l x.1) aa) ?_|(refine DC.flat (args':=[i64 (l[x.1]'aa),.bq (aq o.all o.l)]) (jQ rfl (jQ rfl rfl)) (Is o hi g _) ?_;rintro _ rfl;refine⟨rfl,?_⟩))<;>refine zk ?_)
 . have a : x.1 < l.length := aa
   refine⟨⟨x.1+1,aa,aa⟩,?_,rfl,bG⟩
   conv=>whnf
   (repeat' first|exact True.intro|apply And.intro|rfl|exact Vq a h|exact Cm|exact congrArg (AV.int .i64) (R8 a h)|(refine cw ?_ ?_ ?_<;>(try dsimp only)<;>omega))
 . have a : x.1 < l.length := aa
   refine⟨⟨x.1+1,aa,aa⟩,?_,rfl,bG⟩
   conv=>whnf
   (repeat' first|exact True.intro|apply And.intro|rfl|(refine Vo a h ?_ rfl;simp;done)|exact Cm|exact congrArg (AV.int .i64) (R7 a h i)|(refine cw ?_ ?_ ?_<;>(try dsimp only)<;>omega))
 . have y : x.1 = l.length := aa
   refine⟨replicate (l.length - (l.filter o.has).length) 0,?_,?_,rfl⟩
   . rw[GW aa];simp
   . exact congrArg (fun w=>some (an.arr 1 w)) (Qh aa)
theorem QF {n:Nat}{o:aI}(hi:a_ o.l)(c:o.l.length≤100000)(l:List Int)(a:l≠[])(d:l.length≤100000)(e:n=l.length):c9 63 [.az 0 0 n 1,.fn (.func 205) [] [.ptr 1 0 0]] (.put 0 (some (.arr 1 (l.map ic))) (.put 1 (some (.arr 2 [aq o.all o.l])) .nil)) 2
 (fun b H' _=>∃t:List Int,b = .ret (.az 0 0 (l.filter o.has).length 1)∧H'.get 0=some (.arr 1 ((l.filter o.has++t).map ic))∧H'.get 1=some (.arr 2 [aq o.all o.l])):=by
 subst e;exact QE o hi c l a d
theorem RJ {b:Bool}{l:List Int}:an.eF (.arr 2 [aq b l]):=rfl
theorem F_ {H:ai}{K m:Nat}{b:Bool}{l t:List Int}(c:H.get K=some (.arr 1 ((l++t).map ic)))(a:m=l.length):snap H 20 (.agg [.bool b,.az K 0 m 1])=some (.agg (aq b l)):=A3 c rfl a
theorem Vf (y:Int)(ys:List Int)(e:(y::ys).length≤100000)(o:aI)(c:a_ o.l)(b:o.l.length≤100000):af 167 [.agg (aq false (y::ys)),o.av] (fun h=>h = .ret ((aI.mk false (y::ys)).mt o).av):=by
 have f:(y::ys).length=ys.length+1:=length_cons;refine zw func167 ?_;refine zg ?_
 repeat' ((first|refine zf ?_|refine Rq.mk HQ ?_|(refine Rq.mk (HP (by simp only[length_map,length_cons] at *;omega) aB) ?_)|refine zd func16 ?_|(refine DC.RT (k:=_) (l:=_) (QF c b (y::ys) (cons_ne_nil _ _) e ag) rfl rfl ab rfl rfl (kI (l:=y::ys)) RJ ?_;rintro _ m _ ⟨t,rfl,g,i⟩;refine⟨_,_,_,rfl,_,g,i,kI,?_⟩))<;>refine zg ?_)
 generalize d:snap _ _ _=j
 obtain rfl:=d.symm.trans (F_ (l:=(y::ys).filter o.has) (t:=t) rfl rfl);rfl
theorem ZF:Told .cW (.ak 1 []):=fun c w v h=>by
 cases h with
 | cW a=>exact .ak (fun _ _=>undef) (ag) (ag) ag (ag) ag
 | iB=>exact .fk 1
theorem Ve (o:aI):af 167 [.agg (aq false []),o.av] (fun b=>b = .ret ((aI.mk false []).mt o).av):=by
 refine DP.told (Q:=fun b=>b = .ret (.agg [.bool false,.cW])) ?_ ?_
 . refine zw func167 ?_
   refine zg ?_
   repeat' ((first|(refine zp ?_ ?_<;>first|exact⟨⟩|intro h)|(refine DC.pure rfl (FG) ?_;rintro _ rfl)|refine zd func63 ?_|refine zd func93 ?_|refine DW.rounds aC aD 1 ?_)<;>refine zg ?_)
   all_goals exact⟨⟩
 . rintro _ rfl
   exact⟨_,.agg [.bool false,.ak 1 []],rfl,Told.agg ⟨Told.r,ZF,trivial⟩,rfl⟩
theorem Qo (a b:List Int)(r:a.length≤1001)(s:b.length≤1001)(q:a.length+b.length≠0):c9 121 [.ak 1 [[aU a],[aU b]]] .nil 0 (fun p H' _=>∃K n,p = .ret (.az K 0 n 1)∧n=(a++b).length∧H'.get K=some (.arr 1 ((a++b).map ic))):=by
 refine zd func121 ?_;have c:wr .i64 (0+1)=1:=by rw[aF aa aa];rfl
 have l:wr .i64 (wr .i64 (0+1)+1)=2:=by rw[c,aF aa aa];rfl
 have k:wr .i64 (0+(a.length:Int))=a.length:=by rw[aF aa aa];omega
 have g:wr .i64 (wr .i64 (0+(a.length:Int))+(b.length:Int))=a.length+b.length:=by rw[k,aF aa aa]
 have j:wr .i64 (0 - ((0:Nat):Int))=0:=by rw[aF aa aa];rfl
 have i:wr .i64 (wr .i64 (wr .i64 (0+(a.length:Int))+(b.length:Int)) - wr .i64 (0 - ((0:Nat):Int)))=((a.length+b.length:Nat):Int):=by rw[g,j,aF aa aa];omega
 conv=>whnf
 repeat' ((first|refine Rq.mk (EH (m:=a.length+b.length) (by simp only[length_map];exact i) aa aa ab) ?_|refine Rq.mk EE ?_|refine Rq.mk (tV 8 3000 _ ag rfl rfl (by simp<;>omega) mG) ?_|refine Rq.mk kU ?_|refine Br.split (fun h=>?_) (fun h=>?_)<;>(try simp only[bz,Ah,ET] at h)<;>try (exfalso;omega)|refine DW.rounds aC aD 3 ?_|refine zd func174 ?_|refine ay.mk [aU b] (by rw[c];rfl) ?_|refine ay.mk _ rfl ?_)<;>conv=>whnf)
 all_goals
  refine⟨_,_,rfl,?_,Eq.trans (b:=some (an.arr 1 _)) rfl (congrArg (fun o=>some (an.arr 1 o)) ?_)⟩
 all_goals
  rcases eq_zero_or_pos a.length with f|f<;>rcases eq_zero_or_pos b.length with d|d<;>
   first
    | (exfalso;omega)
    | (obtain rfl:=eq_nil_of_length_eq_zero f;simp[ic,take_of_length_le];done)
    | (obtain rfl:=eq_nil_of_length_eq_zero d;simp[ic,take_of_length_le];done)
    | (simp[ic,take_of_length_le];done)
theorem DC.VD {P:Program}{E:Env}{nx sz N:Nat}{es:List (List AV)}{g:FuncId}{args args':List AV}{H:ai}{R:AE->ai->Nat->Prop}(d:aM (snap .nil 20) args=some args')
 (h:DC P E g args' .nil 0 (fun b H' _=>∃K n,b = .ret (.az K 0 n sz)∧n=N∧H'.get K=some (.arr sz es)))(f:(es.all fun e=>e.all hY)=true)(i:ble (nx+2) 16777216=true)
 (j:R (.ret (.az nx 0 N sz)) (.put nx (some (.arr sz es)) H) (nx+1)):DC P E g args H nx R:=by
 obtain⟨b,H',k,l,K,n,rfl,rfl,o⟩:=DC.one h;exact DC.new d (l.mono fun a p m c=>⟨c.1,by grind⟩) f i j
theorem Na {a b:List Int}(d:a_ b):Lib.compact (iM (a++b))=ji a b:=by
 refine a_.ext ?_ (r_ d) fun x=>?_
 . exact FU (K6 _)
 rw[Cj,Cl,mem_append,jw]
theorem NM {l:List Int}:((l.map ic).all fun e=>e.all hY)=true:=by
 rw[all_map,all_eq_true];intro x _;rfl
theorem Qm:af 121 [.ak 1 [[aU []],[aU []]]] (fun a=>a = .ret .ah):=by
 refine(FV _ _ ab ab).mono ?_;simp
theorem Vg:af 167 [.agg (aq true []),.agg (aq true [])] (fun a=>a = .ret (.agg (aq true []))):=by
 refine DP.told (Q:=fun a=>a = .ret (.agg [.bool true,.ah])) ?_ ?_
 . refine zw func167 ?_
   refine zg ?_
   repeat' ((first|(refine DC.pure rfl (K5) ?_;rintro _ rfl)|(refine DC.pure rfl (FQ) ?_;rintro _ rfl)|(refine DC.qa rfl rfl ?_;refine DC.pure rfl Qm ?_;rintro _ rfl))<;>refine zg ?_)
   all_goals exact⟨⟩
 . rintro _ rfl
   exact⟨_,.agg [.bool true,.ak 1 []],rfl,Told.agg ⟨Told.r,Told.nil,trivial⟩,rfl⟩
theorem Vh (a b:List Int)(ha:a.length≤1001)(hb:b.length≤1001)(d:a.length+b.length≠0)(f:a_ b):af 167 [.agg (aq true a),.agg (aq true b)] (fun ae=>ae = .ret (.agg (aq true (ji a b)))):=by
 have c:a++b≠[]:=fun e=>d (by have:=congrArg length e;simpa using this)
 have hl2:(a++b).length≤3000:=by rw[length_append];omega
 have hcl:=@wz (iM (a++b));refine zw func167 ?_;refine zg ?_
 repeat' ((first|(refine DC.qa rfl rfl ?_;refine DC.VD rfl (Qo a b ha hb d) NM ab ?_)|(refine DC.ng (k:=_) (K8 (n:=(a++b).length) (a++b) rfl c aa) rfl rfl rfl (kI (l:=a++b)) ?_;rintro _ H' _ ⟨rfl,g⟩;refine⟨rfl,_,g,kI,?_⟩)|(refine DC.Bn (k:=_) (FT (n:=(a++b).length) (iM (a++b)) o4.symm (K7 c) (by rw[o4];omega)) rfl rfl rfl kI ?_;rintro _ H' _ ⟨rfl,g⟩;refine⟨_,_,_,rfl,_,g,kI,?_⟩))<;>refine zg ?_)
 generalize h:snap _ _ _=rr
 obtain rfl:=h.symm.trans (F_ (l:=Lib.compact (iM (a++b))) rfl rfl);rw[Na f];rfl
theorem Iu (l:List Int)(g:l.length≤1001)(o:aI)(a:a_ o.l)(c:o.l.length≤1001):af 167 [.agg (aq false l),o.av] (fun d=>d = .ret ((aI.mk false l).mt o).av):=by
 cases l with
 | nil=>exact Ve o
 | cons y f=>exact Vf y _ aa o a aa
theorem Vi (a b:List Int)(c:a_ a)(e:a.length≤1001)(f:b.length≤1001):af 167 [.agg (aq true a),.agg (aq false b)] (fun g=>g = .ret ((aI.mk true a).mt ⟨false,b⟩).av):=by
 have k1:=Iu b f ⟨true,a⟩ c e;exact zw func167 W
theorem Ir (s o:aI)(e:a_ s.l)(c:a_ o.l)(f:s.l.length≤1001)(d:o.l.length≤1001):af 167 [s.av,o.av] (fun i=>i = .ret (s.mt o).av):=by
 obtain⟨j,a⟩:=s;obtain⟨g,b⟩:=o;cases j
 . exact Iu a f _ c d
 cases g
 . exact Vi a b e f d
 . by_cases h : a.length + b.length = 0
   . obtain rfl := eq_nil_of_length_eq_zero (show a.length = 0 by omega)
     obtain rfl:=eq_nil_of_length_eq_zero (show b.length=0 by omega)
     exact Vg
   . exact Vh a b f d h c
theorem V6 (M:List (Int×AV))(b c:Bool)(l d:List Int)(k:Int)(f:gk M k=some (.agg (aq b l))):af 65 [bE M c d,i64 k] (fun e=>e = .ret (.agg (aq b l))):=by
 exact zw func65 W
theorem V5 (M:List (Int×AV))(b:Bool)(c:List Int)(k:Int)(e:gk M k=none):af 65 [bE M b c,i64 k] (fun d=>d = .ret (.agg (aq b c))):=by
 exact zw func65 W
def Hd.ef (h:Hd):List (Int×AV):=h.own.map fun p=>(p.1,p.2.av)
abbrev Hd.av (h:Hd):AV:=bE h.ef h.rest.all h.rest.l
theorem yp {M:List (Int×AV)}:cu M↔a_ (M.map (·.1)):=by
 rfl
theorem Hd.Gg {h:Hd}:h.ef.map (·.1)=h.keys:=by unfold Hd.ef Hd.keys;simp
theorem Hd.oo {h:Hd}(hi:a_ h.keys):cu h.ef:=yp.2 (by rw[Hd.Gg];exact hi)
theorem Hd.rK {h:Hd}:gA h.ef:=fun p a=>by
 obtain⟨q,_,rfl⟩:=mem_map.1 a;exact⟨q.2.all,q.2.l,rfl⟩
theorem Hd.Gf {h:Hd}{k:Int}:∀{l:List (Int×aI)},gk (l.map fun p=>(p.1,p.2.av)) k=(l.find? (fun p=>decide (p.1=k))).map fun p=>p.2.av
 | []=>rfl
 | (a, x) :: l => by
   rw[map_cons,find?_cons];unfold gk;cases b:decide (a=k) with
   | true=>rfl
   | false=>exact @Hd.Gf h k l
theorem sx (h:Hd)(k:Int):af 65 [h.av,i64 k] (fun b=>b = .ret (h.of k).av):=by
 have a:=@Hd.Gf h k h.own;unfold Hd.of;cases e:h.own.find? _ with
 | none =>
   rw[e] at a;exact V5 _ _ _ k a
 | some p =>
   rw[e] at a;exact V6 _ _ _ _ _ k a
structure Hd.kz (h:Hd):Prop where
 inc:a_ h.keys
 all:∀k,a_ (h.of k).l∧(h.of k).l.length≤1001
 rest:a_ h.rest.l∧h.rest.l.length≤1001
theorem Hd.Ok.kH {M N:Nat}(b:N≤1001){h:Hd}(a:h.Ok M N):h.kz:=⟨a.inc,fun k=>⟨(a.all k).1,Nat.le_trans (a.all k).len b⟩,a.rest.1,Nat.le_trans a.rest.len b⟩
theorem Hd.wG {h:Hd}(hi:a_ h.keys){k:Int}{x:AV}(c:(k,x)∈h.ef):x=(h.of k).av∧k∈h.keys:=by
 obtain⟨⟨a,s⟩,b,e⟩:=mem_map.1 c;cases e;exact⟨by rw[Hd.IY hi b],mem_map.2 ⟨_,b,rfl⟩⟩
theorem Hd.A8 {h:Hd}(hi:a_ h.keys){k:Int}(c:k∈h.keys):(k,(h.of k).av)∈h.ef:=by
 obtain⟨⟨a,s⟩,b,rfl⟩:=mem_map.1 c;exact mem_map.2 ⟨(a,s),b,by rw[Hd.IY hi b]⟩
theorem DI {b:List Int}{f:Int->aI}{a:aI}:(mC b f a).ef=b.map fun k=>(k,(f k).av):=by
 unfold Hd.ef mC;simp
theorem DL {a:List Int}{g:Int->AV}(h:a_ a):cu (a.map fun k=>(k,g k)):=yp.2 (by rw[map_map];show a_ (a.map id);simp_all)
theorem X7 {h:Hd}(hi:a_ h.keys){r a:Int}:eo (h.ef.map fun p=>(p.1,((h.of p.1).wo r).av)) a (.agg (aq false [r]))=(h.set r a).ef:=by
 unfold Hd.set;rw[DI];have f:cu (h.ef.map fun p=>(p.1,((h.of p.1).wo r).av)):=yp.2 (by rw[map_map];exact yp.1 (Hd.oo hi))
 refine rL (nL f) (DL (oC hi)) fun j x=>?_
 rw[iY f]
 constructor
 . rintro (⟨rfl, rfl⟩ | ⟨d, i⟩)
   . exact mem_map.2 ⟨j,ia.2 (.inl rfl),by rw[if_pos rfl]⟩
   . obtain ⟨p, g, e⟩ := mem_map.1 d
     cases e;exact mem_map.2 ⟨p.1,ia.2 (.inr (Hd.wG hi g).2),by rw[if_neg i]⟩
 . intro d
   obtain⟨k,c,e⟩:=mem_map.1 d;cases e
   by_cases b:j=a
   . exact .inl ⟨b,by rw[if_pos b]⟩
   . rcases ia.1 c with c | c
     . exact absurd c b
     . exact .inr ⟨mem_map.2 ⟨_,Hd.A8 hi c,by rw[if_neg b]⟩,b⟩
theorem X5 (h:Hd)(b:h.kz)(r a:Int):af 116 [h.av,i64 r,i64 a] (fun d=>d = .ret (h.set r a).av):=by
 have:=Dh _ (Hd.oo b.inc) _ _ r a _ _ _ (Ng _ b.rest.1 (by have:=b.rest.2;omega) r) Hd.rK (fun k=>⟨_,_,rfl⟩) fun k x e=>by
  rw[(Hd.wG b.inc e).1];exact Ng _ (b.all k).1 (by have:=(b.all k).2;omega) r
 rw[X7 b.inc] at *;exact this
theorem It {h o:Hd}(hi:a_ h.keys)(f:a_ o.keys):dq (dq [] (dK h.ef [] fun k=>((h.of k).mt (o.of k)).av)) (dK o.ef [] fun k=>((h.of k).mt (o.of k)).av)=(h.mt o).ef:=by
 unfold Hd.mt;rw[DI];have i:=ki (l:=dK h.ef [] fun k=>((h.of k).mt (o.of k)).av) eI
 have b:∀(M:Hd),a_ M.keys->∀j,(∃y,(j,y)∈dK M.ef [] fun k=>((h.of k).mt (o.of k)).av)↔j∈M.keys:=fun M g j=>by
  rw[so]
  constructor
  . rintro ⟨⟨x, m⟩, _⟩
    exact(Hd.wG g m).2
  . intro a
    exact⟨⟨_,Hd.A8 g a⟩,fun y n=>by cases n⟩
 refine rL (ki i) (DL (r_ f)) fun j x=>?_
 rw[qo i rI,qo eI rI,b h hi,b o f]
 constructor
 . rintro (⟨rfl, a⟩ | ⟨⟨rfl, a⟩ | ⟨d, _⟩, _⟩)
   . exact mem_map.2 ⟨j,jw.2 (.inr a),rfl⟩
   . exact mem_map.2 ⟨j,jw.2 (.inl a),rfl⟩
   . cases d
 . intro d
   obtain⟨k,a,e⟩:=mem_map.1 d;cases e
   by_cases c:j∈o.keys
   . exact .inl ⟨rfl,c⟩
   . rcases jw.1 a with a|a<;>grind
theorem H8 {h:Hd}{a:Bool}{b:Int->Bool}:dy a b h.ef []=(a || h.keys.any b):=by
 have e:(h.ef.filter fun p=>!([]:List (Int×AV)).any fun q=>decide (q.1=p.1))=h.ef:=filter_eq_self.2 (ag)
 unfold dy;rw[e,<-Hd.Gg,any_map];rfl
theorem ZU {a b:List Int}{e:Int->Bool}:(a.any e || b.any e)=(ji a b).any e:=by
 rw[Bool.eq_iff_iff,Bool.or_eq_true,any_eq_true,any_eq_true,any_eq_true]
 constructor
 . rintro (⟨x, c, d⟩ | ⟨x, c, d⟩)
   . exact⟨x,jw.2 (.inl c),d⟩
   exact⟨x,jw.2 (.inr c),d⟩
 . rintro ⟨x, c, d⟩
   rcases jw.1 c with c|c<;>grind
theorem Iv {h o:Hd}(hi:a_ h.keys)(c:a_ o.keys){a:Bool}(b:a = !(h.rest.mt o.rest).same h.rest):dy (dy a (fun k=>!((h.of k).mt (o.of k)).same (h.of k)) h.ef []) (fun k=>!((h.of k).mt (o.of k)).same (h.of k)) o.ef []=h.dy o:=by
 rw[H8,H8];unfold Hd.dy;rw[<-ZU,b,Bool.or_assoc]
theorem ID {s t:aI}(b:a_ s.l∧s.l.length≤1001)(a:a_ t.l∧t.l.length≤1001):(s.mt t).l.length≤3000:=by
 unfold aI.mt;split
 . split
   . have:(ji s.l t.l).length≤s.l.length+t.l.length:=by
      rw[<-Na a.1];refine Nat.le_trans wz ?_;rw[o4,length_append];simp
     grind
   grind
 grind
theorem Vd (h o:Hd)(a:h.kz)(b:o.kz):af 114 [h.av,o.av] (fun j=>j = .ret (.ao [(h.mt o).av,.bool (h.dy o)])):=by
 have i:=Ir _ _ a.rest.1 b.rest.1 a.rest.2 b.rest.2;have g:=Kl (h.rest.mt o.rest) h.rest (by have:=ID a.rest b.rest;omega) (by have:=a.rest.2;omega)
 have f:=fun k=>Ir _ _ (a.all k).1 (b.all k).1 (a.all k).2 (b.all k).2
 have d:∀k,af 168 [((h.of k).mt (o.of k)).av,(h.of k).av] _:=fun k=>Kl _ _ (by have:=ID (a.all k) (b.all k);omega) (by have:=(a.all k).2;omega)
 cases e:(h.rest.mt o.rest).same h.rest with
 | true =>
   rw[e] at g;have:=uM _ o.ef (Hd.oo a.inc) (Hd.oo b.inc) _ _ _ _ _ _ _ _ _ _ i g (fun k=>⟨_,_,rfl⟩) (fun k=>⟨_,_,rfl⟩) (fun k=>⟨_,_,rfl⟩) Hd.rK Hd.rK (fun k _=>sx h k) (fun k _=>sx o k) (fun k _=>f k) (fun k _=>d k)
   rw[It a.inc b.inc,Iv a.inc b.inc (by grind)] at this
   exact this
 | false =>
   rw[e] at g;have:=xy _ _ (Hd.oo a.inc) (Hd.oo b.inc) _ _ _ _ _ _ _ _ _ _ i g (fun k=>⟨_,_,rfl⟩) (fun k=>⟨_,_,rfl⟩) (fun k=>⟨_,_,rfl⟩) Hd.rK Hd.rK (fun k _=>sx h k) (fun k _=>sx o k) (fun k _=>f k) (fun k _=>d k)
   rw[It a.inc b.inc,Iv a.inc b.inc (by grind)] at this
   exact this
end Go.Ago
section
namespace Go.Proofs
open List Nat
open Go.Shelf
def Tryz.laysMc_ren:Go.Shelf.Ren:=⟨fun|5=>169|7=>206|n=>n,fun|23=>109|25=>3|3=>111|4=>4|20=>20|n=>n,fun|n=>n⟩
theorem Tryz.laysMc:Go.Proofs.SlLaysW.n5 Tryz.prog Tryz.laysMc_ren:={
 mixed:=by kernel_rfl
 f5:=⟨Tryz.f169.name,by decide,Tryz.func169.trans (congrArg some (by kernel_rfl))⟩
 f7:=Tryz.func206.trans (congrArg some (by kernel_rfl))
 t4:=Tryz.underlying4
 a4:=Tryz.isAgg4
 z4:=Tryz.sizeOf4
 v4:=Tryz.zeroValue4
 t20:=Tryz.underlying20
 a20:=Tryz.isAgg20
 z20:=Tryz.sizeOf20
 v20:=Tryz.zeroValue20
 t23:=Tryz.underlying109
 a23:=Tryz.isAgg109
 z23:=Tryz.sizeOf109
 v23:=Tryz.zeroValue109 }
end Go.Proofs
namespace Go.Ago
open Go.Proofs List Nat Tryz
theorem P3 (M:List (Int×AV)):c9 169 [.cK M] .nil 0 (fun C H' _=>C = .ret (.cY 0)∧H'.get 0=some (.mp M)):=by
 refine⟨.ret (.cY 0),.put 0 (some (.mp M)) .nil,1,⟨⟨_,func169,rfl,ab⟩,fun c w X u Q I=>?_⟩,rfl,rfl⟩
 obtain⟨v,Y,rfl,L,N⟩:=I.dT;obtain rfl:=N.fY;cases L with
 | @cK _ _ _ r a h f Z J D E F G H =>
   refine(AnyW.maps_Clone Tryz.laysMc r h a w J).mono ?_
   rintro e w' ⟨rfl,rfl⟩
   have m:(w.alloc (.map h a)).heap.size=w.heap.size+1:=by show(w.heap.push _).size=_;rw[Array.size_push]
   have i:∀b,b<w.heap.size->(w.alloc (.map h a)).heap[b]? = w.heap[b]?:=fun b d=>by
    show(w.heap.push _)[b]? = _;rw[Array.getElem?_push,if_neg aa]
   have s:(w.alloc (.map h a)).heap[w.heap.size]? = some (.map h a):=by
    show(w.heap.push _)[w.heap.size]? = _;rw[Array.getElem?_push,if_pos rfl]
   have l:∀j o,(Tr.put 0 (some (an.mp M)) Tr.nil:ai).get j=some o->j=0∧o = .mp M:=fun j o e=>by
    rw[Tr.get] at e;cases b:beq j 0 with
    | true=>rw[b] at e;exact⟨eq_of_beq_eq_true b,by cases e;rfl⟩
    | false=>rw[b] at e;cases e
   have y:c.le ⟨fun k=>if k=0 then some ⟨w.heap.size,0,0,0⟩ else none,c.au⟩:=⟨fun k p e=>(by rw[Q k (zero_le _)] at e;cases e),fun b d=>d⟩
   have n:c.bare.le ⟨fun k=>if k=0 then some ⟨w.heap.size,0,0,0⟩ else none,c.au⟩:=⟨fun k p e=>(by cases e),fun b d=>d⟩
   refine⟨⟨fun k=>if k=0 then some ⟨w.heap.size,0,0,0⟩ else none,c.au⟩,_,1,.ret (.cY 0),⟨fun k t=>absurd t (not_lt_zero _),fun b d=>d,rfl,rfl,rfl,by rw[m];omega,fun b d _=>i b d,fun b d => .inl d,fun b d=>?_⟩,
    ⟨fun b d=>by rw[m];have:=u.bH b d;omega,fun k B e=>?_,fun k o e=>?_,fun k K o R B B' e S _ _ _=>by rw[(l k o e).1,(l K R S).1],fun g O e=>(u.bR g O e).mono y fun b d=>i b (u.bH b d)⟩,zero_le _,fun k t=>if_neg aa,?_,rfl,rfl,rfl⟩
   . obtain ⟨k, o, B, U, T, rfl⟩ := d
     obtain⟨rfl,rfl⟩:=l k o U;cases T;exact .inr (Nat.le_refl _)
   . by_cases t : k = 0
     . subst t
       cases e;rw[m];exact lt_succ_self _
     . simp[t] at e
   . obtain ⟨rfl, rfl⟩ := l k o e
     refine⟨_,rfl,fun V=>?_,⟨rfl,rfl⟩,h,a,s,D,E,f,F,G,fun k x e=>(H k x e).mono n fun b d=>i b (u.bH b d)⟩
     have:=u.bH _ V;exact absurd this (Nat.lt_irrefl _)
   . exact Rel.cY (B:=⟨w.heap.size,0,0,0⟩) rfl
theorem DV.VE {P:Program}{E:Env}{nm:Nat}{g:FuncId}{b cap args args':List AV}{H:ai}{R:AV->List (Nat×Option an)->List Nat->Prop}{M:List (Int×AV)}(e:aM (snap .nil 20) (b++args++cap)=some args')
 (h:DC P E g args' .nil 0 (fun c H' _=>c = .ret (.cY 0)∧H'.get 0=some (.mp M)))(f:∀p∈M,vE p.2)(d:ble (nm+2) 16777216=true)(j:R (.cY nm) [(nm,some (.mp M))] []):DV P E nm (.fn (.func g) b cap) args H R:=by
 obtain⟨c,H',i,k,n⟩:=h;refine .inr (.inl ⟨_,_,⟨g,b,cap,args',0,.mp M,_,rfl,e,AC.mono k fun a h m l=>?_,f,.inr ⟨rfl,rfl⟩,rfl,?_⟩,j⟩)
 . grind
 have:=le_of_ble_eq_true d;omega
end Go.Ago
end
namespace Go.Ago
open Go.Proofs List Nat Tryz
attribute [local irreducible] bN bM aZ bK b_ wr bp bL comp DC DP DW DV
theorem Zb {x:AV}(h:x.l1 0=true):vE x:=fun c d w v b a=>CW b (ag) h a
theorem Q0 {h:Hd}:∀p∈h.ef,vE p.2:=fun p a=>by
 obtain⟨q,_,rfl⟩:=mem_map.1 a;exact Zb rfl
theorem Vy {h:Hd}(hi:a_ h.keys){a b:Int}:eo h.ef a (h.of b).av=(h.move a b).ef:=by
 unfold Hd.move;rw[DI];have g:=Hd.oo hi;refine rL (nL g) (DL (oC hi)) fun j x=>?_
 rw[iY g]
 constructor
 . rintro (⟨rfl, rfl⟩ | ⟨f, i⟩)
   . exact mem_map.2 ⟨j,ia.2 (.inl rfl),by rw[if_pos rfl]⟩
   . obtain ⟨e, d⟩ := Hd.wG hi f
     exact mem_map.2 ⟨j,ia.2 (.inr d),by rw[if_neg i,e]⟩
 . intro f
   obtain⟨k,d,e⟩:=mem_map.1 f;cases e
   by_cases c:j=a
   . exact .inl ⟨c,by rw[if_pos c]⟩
   . rcases ia.1 d with d | d
     . exact absurd d c
     . exact .inr ⟨by rw[if_neg c];exact Hd.A8 hi d,c⟩
theorem YB {H:ai}{K:Nat}{es:List (Int×AV)}{b:Bool}{l:List Int}(c:H.get K=some (.mp es))(a:gA es):snap H 20 (.agg [.cY K,.bool b,aU l])=some (bE es b l):=
 sU (jQ (yR c a) (jQ rfl (jQ rfl rfl)))
theorem Vv (h:Hd)(e:h.kz)(a b:Int):af 115 [h.av,i64 a,i64 b] (fun f=>f = .ret (h.move a b).av):=by
 refine zw func115 ?_;refine zg ?_
 repeat' ((first|(refine zh rfl (sx h b) ?_;rintro _ rfl)|refine DV.VE rfl (P3 h.ef) Q0 ab ?_)<;>refine zg ?_)
 generalize c:snap _ _ _=g
 obtain rfl:=c.symm.trans (YB (es:=eo h.ef a (h.of b).av) rfl (YM (Hd.oo e.inc) Hd.rK ⟨_,_,rfl⟩));rw[Vy e.inc];rfl
abbrev Hd.row (h:Hd):List AV:=[.cK h.ef,.bool h.rest.all,aU h.rest.l]
abbrev iH (X:List Hd):an := .arr 3 (X.map Hd.row)
theorem J5 {X:List Hd}{n:Nat}(h:n<X.length):(X.map Hd.row)[0+((n:Int)).toNat]? = some (X[n].row):=by
 simp_all
theorem X8 {X:List Hd}{n:Nat}{u:Hd}:(X.map Hd.row).set (0+((n:Int)).toNat) u.row=(X.set n u).map Hd.row:=ag
theorem HI (X:List Hd)(i:X.length≤100000)(a:Nat)(d:a<X.length)(u:Hd)(g:X[a].kz)(f:u.kz) :
 c9 113 [i64 a,u.av,.ptr 13 0 0] (.put 12 (some (iH X)) (.put 13 (some (.arr 1 [[.az 12 0 X.length 3]])) .nil)) 14 (fun e H' _=>e = .ret (.bool (X[a].dy u))∧H'.get 12=some (iH (if X[a].dy u=true then X.set a (X[a].mt u) else X))∧H'.get 13=some (.arr 1 [[.az 12 0 X.length 3]])):=by
 refine zd func113 ?_;refine zk ?_
 repeat' ((first|(refine zp ?_ ?_<;>intro h)|(refine zh rfl (Vd X[a] u g f) ?_;rintro _ rfl)|refine cb (J5 d) ?_)<;>refine zk ?_)
 . refine ⟨by rw [h], ?_, rfl⟩
   rw[if_pos h];exact congrArg (fun c=>some (an.arr 3 c)) (X8 (u:=X[a].mt u))
 . refine ⟨by rw [h], ?_, rfl⟩
   rw[if_neg (by rw[h];exact Bool.false_ne_true)]
   rfl
theorem u7 {n:Nat}{X:List Hd}:an.lt n (iH X):=by
 show(List.all _ _)=true;rw[all_map,all_eq_true];intro x _;rfl
theorem HJ {X:List Hd}{b:Bool}{n:Nat}(h:n<X.length)(u:Hd):fC (X,b) n u=((if X[n].dy u=true then X.set n (X[n].mt u) else X),X[n].dy u || b):=by
 unfold fC
 grind
end Go.Ago
namespace Go.Ago
open List Nat
theorem vQ {X:List Hd×Bool}{p m:Nat}{l:List Int}(h:m<l.length):ee X p (l.take (m+1))=fC (ee X p (l.take m)) (l[m]).toNat ((ee X p (l.take m)).1.getD p cN):=by
 rw[<-take_append_getElem h];unfold ee
 grind
theorem EN {X:List Hd×Bool}{p:Nat}{l:List Int}:ee X p (l.take 0)=X:=rfl
theorem N7 {o:List Hd}{b:Bool}{p:Nat}{l:List Int}:(ee (o,b) p (l.take 0)).1=o:=rfl
theorem N8 {o:List Hd}{b:Bool}{p:Nat}{l:List Int}:(ee (o,b) p (l.take 0)).2=b:=rfl
theorem Aa {X:List Hd×Bool}{p m:Nat}{l:List Int}(h:l.length≤m):ee X p (l.take m)=ee X p l:=by rw[take_of_length_le h]
theorem Tv {a:Sk}{j:Nat}:iX a (j+1)=(fV a (iX a j)).1:=rfl
theorem Xz {b:Sk}{a:List Hd}{n:Nat}(h:n=b.st.length):fV b a=dO b a n:=by subst h;rfl
theorem XA {b:Sk}{M N:Nat}(e:b.Ok M N)(d:b.Pl){a:List Hd}(f:gY M N a)(c:a.length=b.st.length+1):jm M N (a,false) (fV b a):=(yT e d f c (ag)).1
theorem Y_ {b:Sk}{a:List Hd}:dO b a 0=ee (a,false) b.st.length b.fe:=rfl
theorem XB {b:Sk}{M N:Nat}{a:List Hd}(h:jm M N (a,false) (fV b a)):(if (fV b a).2=true then sM M N (fV b a).1+1 else 0)<sM M N a+1:=by
 rcases h with⟨d,c⟩|⟨d,c⟩<;>grind
theorem XC {b:Sk}{M N:Nat}{a:List Hd}(h:jm M N (a,false) (fV b a))(e:(fV b a).2=false):fV b (fV b a).1=((fV b a).1,false):=by
 rcases h with⟨d,c⟩|⟨d,c⟩<;>grind
theorem Y8 {b:Sk}{X:List Hd×Bool}{n:Nat}{a fr:Int}(h:b.st[n]? = some (.mv a fr)):jX b X n=fC X (n+1) ((X.1.getD n cN).move a fr):=by
 unfold jX
 grind
theorem Y9 {b:Sk}{X:List Hd×Bool}{n:Nat}{f:Bool}{r a:Int}(h:b.st[n]? = some (.op f r a)):jX b X n=ee (fJ X n f r a) n (b.hJ.getD n []):=by
 unfold jX
 grind
theorem GA {X:List Hd×Bool}{n:Nat}{r a:Int}(h:0≤a):fJ X n true r a=fC X (n+1) ((X.1.getD n cN).set r a):=by unfold fJ;grind
theorem Gz {X:List Hd×Bool}{n:Nat}{r a:Int}(h:a<0):fJ X n true r a=fC X (n+1) (X.1.getD n cN):=by unfold fJ;grind
theorem Gy {X:List Hd×Bool}{n:Nat}{r a:Int}:fJ X n false r a=X:=rfl
theorem uG {X:List Hd×Bool}{n:Nat}{u:Hd}(h:(X.1.getD n cN).dy u=true):(fC X n u).2=true:=by unfold fC;grind
theorem uE {X:List Hd×Bool}{n:Nat}{u:Hd}(h:(X.1.getD n cN).dy u=false):(fC X n u).2=X.2:=by unfold fC;grind
end Go.Ago
