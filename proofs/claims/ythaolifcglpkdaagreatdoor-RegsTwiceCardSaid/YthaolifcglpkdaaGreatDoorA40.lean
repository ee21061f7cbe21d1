/-
  Part A40: lemmas, each with its own conditions.
-/
import Derived.Test.YthaolifcglpkdaaGreatDoorA39
set_option maxRecDepth 100000
set_option maxHeartbeats 0
set_option linter.all false
namespace Go.Ago
open Go.Proofs List Nat Tryz
attribute [local irreducible] bN bM aZ bK b_ wr bp bL comp DC DP DW DV
theorem Q8 (l:List iS)(d:l.length<281474976710656):af 200 [.ak 8 (l.map iS.cells),.ak 8 (l.map iS.cells)] (fun c=>c = .ret (.bool true)):=by
 refine zw func200 ?_;refine zg ?_
 repeat' ((refine zb ?_ ?_<;>(first|exact⟨⟩|intro h))<;>refine zg ?_)
 refine DW.aO aC aD [0,1,4,12] [] 0 (fun x:{x:Nat // x≤l.length}=>[(13,i64 x.1)]) (fun _=>[]) [] (fun x=>l.length - x.1) (⟨0,zero_le _⟩) ?_
 refine zl fun x=>?_
 have e:=x.2;refine zg ?_
 repeat' (((refine zb ?_ ?_<;>(intro h)<;>try (exfalso;(simp[bK,aZ,eV] at h;done))))<;>refine zg ?_)
 . have a : x.1 < l.length := aa
   exact zi ⟨x.1+1,a⟩
 all_goals exact⟨⟩
theorem Q9 (l:List Fl)(d:l.length<281474976710656):af 201 [.ak 2 (l.map Fl.cells),.ak 2 (l.map Fl.cells)] (fun c=>c = .ret (.bool true)):=by
 refine zw func201 ?_;refine zg ?_
 repeat' ((refine zb ?_ ?_<;>(first|exact⟨⟩|intro h))<;>refine zg ?_)
 refine DW.aO aC aD [0,1,4,12] [] 0 (fun x:{x:Nat // x≤l.length}=>[(13,i64 x.1)]) (fun _=>[]) [] (fun x=>l.length - x.1) (⟨0,zero_le _⟩) ?_
 refine zl fun x=>?_
 have e:=x.2;refine zg ?_
 repeat' (((refine zb ?_ ?_<;>(intro h)<;>try (exfalso;(simp[bK,aZ,eV] at h;done))))<;>refine zg ?_)
 . have a : x.1 < l.length := aa
   exact zi ⟨x.1+1,a⟩
 all_goals exact⟨⟩
theorem Q_ (l:List (BL UInt8))(d:l.length<281474976710656):af 202 [.ak 1 (l.map fun s=>[.str s.l]),.ak 1 (l.map fun s=>[.str s.l])] (fun c=>c = .ret (.bool true)):=by
 refine zw func202 ?_;refine zg ?_
 repeat' ((refine zb ?_ ?_<;>(first|exact⟨⟩|intro h))<;>refine zg ?_)
 refine DW.aO aC aD [0,1,4,12] [] 0 (fun x:{x:Nat // x≤l.length}=>[(13,i64 x.1)]) (fun _=>[]) [] (fun x=>l.length - x.1) (⟨0,zero_le _⟩) ?_
 refine zl fun x=>?_
 have e:=x.2;refine zg ?_
 repeat' (((refine zb ?_ ?_<;>(intro h)<;>try (exfalso;(simp[bK,aZ,eV] at h;done))))<;>refine zg ?_)
 . have a : x.1 < l.length := aa
   exact zi ⟨x.1+1,a⟩
 all_goals exact⟨⟩
theorem Rc (l:List Int)(d:l.length<281474976710656):af 24 [.ak 1 (l.map fun n=>[i64 n]),.ak 1 (l.map fun n=>[i64 n])] (fun c=>c = .ret (.bool true)):=by
 refine zw func24 ?_;refine zg ?_
 repeat' ((refine zb ?_ ?_<;>(first|exact⟨⟩|intro h))<;>refine zg ?_)
 refine DW.aO aC aD [0,1,4,12] [] 0 (fun x:{x:Nat // x≤l.length}=>[(13,i64 x.1)]) (fun _=>[]) [] (fun x=>l.length - x.1) (⟨0,zero_le _⟩) ?_
 refine zl fun x=>?_
 have e:=x.2;refine zg ?_
 repeat' (((refine zb ?_ ?_<;>(first|exact⟨⟩|intro h)))<;>refine zg ?_)
 . have a : x.1 < l.length := aa
   exact zi ⟨x.1+1,a⟩
 all_goals exact⟨⟩
theorem Ra (l:List Fm)(d:l.length<281474976710656):af 203 [.ak 4 (l.map Fm.cells),.ak 4 (l.map Fm.cells)] (fun c=>c = .ret (.bool true)):=by
 refine zw func203 ?_;refine zg ?_
 repeat' ((refine zb ?_ ?_<;>(first|exact⟨⟩|intro h))<;>refine zg ?_)
 refine DW.aO aC aD [0,1,4,12] [] 0 (fun x:{x:Nat // x≤l.length}=>[(13,i64 x.1)]) (fun _=>[]) [] (fun x=>l.length - x.1) (⟨0,zero_le _⟩) ?_
 refine zl fun x=>?_
 have e:=x.2;refine zg ?_
 repeat' (((refine zb ?_ ?_<;>(intro h)<;>try (exfalso;(simp[bK,aZ,eV] at h;done))))<;>refine zg ?_)
 . have a : x.1 < l.length := aa
   exact zi ⟨x.1+1,a⟩
 all_goals exact⟨⟩
theorem Rb (l:List Ty)(d:l.length<281474976710656):af 204 [.ak 5 (l.map Ty.cells),.ak 5 (l.map Ty.cells)] (fun c=>c = .ret (.bool true)):=by
 refine zw func204 ?_;refine zg ?_
 repeat' ((refine zb ?_ ?_<;>(first|exact⟨⟩|intro h))<;>refine zg ?_)
 refine DW.aO aC aD [0,1,4,12] [] 0 (fun x:{x:Nat // x≤l.length}=>[(13,i64 x.1)]) (fun _=>[]) [] (fun x=>l.length - x.1) (⟨0,zero_le _⟩) ?_
 refine zl fun x=>?_
 have e:=x.2;refine zg ?_
 repeat' (((refine zb ?_ ?_<;>(intro h)<;>try (exfalso;(simp[bK,aZ,eV] at h;done))))<;>refine zg ?_)
 . have a : x.1 < l.length := aa
   exact zi ⟨x.1+1,a⟩
 all_goals exact⟨⟩
theorem KW (l:List iS)(b:l.length<281474976710656):af 159 [.ak 8 (l.map iS.cells),.ak 8 (l.map iS.cells)] (fun c=>c = .ret (.bool true)):=by
 have k1:=Q8 l b;exact zw func159 W
theorem Yr (l:List Fl)(b:l.length<281474976710656):af 160 [.ak 2 (l.map Fl.cells),.ak 2 (l.map Fl.cells)] (fun c=>c = .ret (.bool true)):=by
 have k1:=Q9 l b;exact zw func160 W
theorem Ys (l:List (BL UInt8))(b:l.length<281474976710656):af 161 [.ak 1 (l.map fun s=>[.str s.l]),.ak 1 (l.map fun s=>[.str s.l])] (fun c=>c = .ret (.bool true)):=by
 have k1:=Q_ l b;exact zw func161 W
theorem Yt (l:List Int)(b:l.length<281474976710656):af 162 [.ak 1 (l.map fun n=>[i64 n]),.ak 1 (l.map fun n=>[i64 n])] (fun c=>c = .ret (.bool true)):=by
 have k1:=Rc l b;exact zw func162 W
theorem Dm (l:List Fm)(b:l.length<281474976710656):af 165 [.ak 4 (l.map Fm.cells),.ak 4 (l.map Fm.cells)] (fun c=>c = .ret (.bool true)):=by
 have k1:=Ra l b;exact zw func165 W
theorem yP (l:List Ty)(b:l.length<281474976710656):af 166 [.ak 5 (l.map Ty.cells),.ak 5 (l.map Ty.cells)] (fun c=>c = .ret (.bool true)):=by
 have k1:=Rb l b;exact zw func166 W
theorem WU (p:eC):af 158 [p.av,p.av] (fun b=>b = .ret (.bool true)):=by
 refine zw func158 ?_;refine zg ?_
 repeat' ((first|(refine zb ?_ ?_<;>(first|exact⟨⟩|intro h)<;>try (exfalso;(simp[bK,aZ,eV] at h;done)))|(refine DC.pure rfl (KW p.init.l p.init.h) ?_;rintro _ rfl)|(refine DC.pure rfl (yP p.lK.l p.lK.h) ?_;rintro _ rfl))<;>refine zg ?_)
 all_goals exact⟨⟩
theorem WV (l:List eC)(d:l.length<281474976710656):af 157 [.ak 7 (l.map eC.cells),.ak 7 (l.map eC.cells),.fn (.func 158) [] []] (fun c=>c = .ret (.bool true)):=by
 refine zw func157 ?_;refine zg ?_
 repeat' ((refine zb ?_ ?_<;>(first|exact⟨⟩|intro h))<;>refine zg ?_)
 refine DW.aO aC aD [1,2,6,15,16] [] 0 (fun x:{x:Nat // x≤l.length}=>[(17,i64 x.1)]) (fun _=>[]) [] (fun x=>l.length - x.1) (⟨0,zero_le _⟩) ?_
 refine zl fun x=>?_
 rcases Nat.lt_or_ge x.1 l.length with a|a
 . refine zg ?_
   repeat' ((first|(refine zb ?_ ?_<;>(intro h)<;>try (exfalso;omega))|(refine DC.pure rfl (WU l[x.1]) ?_;rintro _ rfl))<;>refine zg ?_)
   exact zi ⟨x.1+1,a⟩
 . refine zg ?_
   repeat' ((refine zb ?_ ?_<;>(intro h)<;>try (exfalso;omega))<;>refine zg ?_)
   all_goals exact⟨⟩
theorem WY (p:cR):af 109 [p.av,p.av] (fun b=>b = .ret (.bool true)):=by
 refine zw func109 ?_;refine zg ?_
 repeat' ((first|(refine zb ?_ ?_<;>(first|exact⟨⟩|intro h))|(refine DC.pure rfl (WV p.procs.l p.procs.h) ?_;rintro _ rfl)|(refine DC.pure rfl (KW p.image.l p.image.h) ?_;rintro _ rfl)|(refine DC.pure rfl (Yr p.files.l p.files.h) ?_;rintro _ rfl)|(refine DC.pure rfl (Ys p.conds.l p.conds.h) ?_;rintro _ rfl)|(refine DC.pure rfl (Yt p.dv.l p.dv.h) ?_;rintro _ rfl))<;>refine zg ?_)
 all_goals exact⟨⟩
theorem ib (r:Int):af 163 [i64 r] (fun b=>∃z,b = .ret (i64 z)∧((r<0∧z=r)∨(0≤r∧z=0))):=by
 refine zw func163 ?_;exact⟨_,rfl,by unfold bL;grind⟩
theorem Ju (i:Ins)(h0:i.op=14∨i.op=15∨i.op=16):af 164 [i.av] (fun b=>b = .ret (Ins.av { i with n:=0 })):=by
 exact zw func164 W
theorem Jt (i:Ins)(h0:i.op=28∨i.op=29):af 164 [i.av] (fun b=>b = .ret (Ins.av { i with m:=0 })):=by
 exact zw func164 W
theorem Jv (i:Ins)(h0:i.op≠14∧i.op≠15∧i.op≠16∧i.op≠28∧i.op≠29):af 164 [i.av] (fun b=>b = .ret (Ins.av i)):=by
 exact zw func164 W
theorem Yp {x y:Ins}(h:SimI x y):∃(d a b n m:Int) (l:BL Int),y={ x with d:=d,a:=a,b:=b,l:=l,n:=n,m:=m }:=⟨_,_,_,_,_,_,h.eq⟩
theorem zY (x y:Ins)(h:SimI x y):af 112 [x.av,y.av] (fun o=>o = .ret (.bool true)):=by
 obtain⟨d,a,b,n,m,l,rfl⟩:=Yp h;have r:=h.d;have s:=h.a;have k:=h.b;have p:=h.l;have i:=h.n;have j:=h.m;dsimp only at r s k p i j;have q:(x.op=14∨x.op=15∨x.op=16)∨(x.op=28∨x.op=29)∨(x.op≠14∧x.op≠15∧x.op≠16∧x.op≠28∧x.op≠29):=aa;rcases q with e|e|e
 . have j := j aa aa
   refine zw func112 ?_;refine zg ?_
   repeat' ((first|(refine zb ?_ ?_<;>(first|exact⟨⟩|intro h)<;>try (exfalso;first|omega|(simp[bK,aZ,eV] at h;done)))|(refine zh rfl (ib x.d) ?_;rintro _ ⟨z,rfl,c⟩)|(refine zh rfl (ib x.a) ?_;rintro _ ⟨z,rfl,c⟩)|(refine zh rfl (ib x.b) ?_;rintro _ ⟨z,rfl,c⟩)|(refine zh rfl (ib d) ?_;rintro _ ⟨z,rfl,c⟩)|(refine zh rfl (ib a) ?_;rintro _ ⟨z,rfl,c⟩)|(refine zh rfl (ib b) ?_;rintro _ ⟨z,rfl,c⟩)|(refine zh rfl (Ju x e) ?_;rintro _ rfl)|(refine zh rfl (Ju { x with d:=d,a:=a,b:=b,l:=l,n:=n,m:=m } e) ?_;rintro _ rfl)|(refine DC.pure rfl (Dm x.f.l x.f.h) ?_;rintro _ rfl)|(refine DC.pure rfl (yP x.y.l x.y.h) ?_;rintro _ rfl))<;>refine zg ?_)
   all_goals first|exact⟨⟩|exact absurd (‹x.size=true›.symm.trans ‹x.size=false›) ab|exact absurd (‹x.range=true›.symm.trans ‹x.range=false›) ab
 . have i := i aa aa aa
   refine zw func112 ?_;refine zg ?_
   repeat' ((first|(refine zb ?_ ?_<;>(first|exact⟨⟩|intro h)<;>try (exfalso;first|omega|(simp[bK,aZ,eV] at h;done)))|(refine zh rfl (ib x.d) ?_;rintro _ ⟨z,rfl,c⟩)|(refine zh rfl (ib x.a) ?_;rintro _ ⟨z,rfl,c⟩)|(refine zh rfl (ib x.b) ?_;rintro _ ⟨z,rfl,c⟩)|(refine zh rfl (ib d) ?_;rintro _ ⟨z,rfl,c⟩)|(refine zh rfl (ib a) ?_;rintro _ ⟨z,rfl,c⟩)|(refine zh rfl (ib b) ?_;rintro _ ⟨z,rfl,c⟩)|(refine zh rfl (Jt x e) ?_;rintro _ rfl)|(refine zh rfl (Jt { x with d:=d,a:=a,b:=b,l:=l,n:=n,m:=m } e) ?_;rintro _ rfl)|(refine DC.pure rfl (Dm x.f.l x.f.h) ?_;rintro _ rfl)|(refine DC.pure rfl (yP x.y.l x.y.h) ?_;rintro _ rfl))<;>refine zg ?_)
   all_goals first|exact⟨⟩|exact absurd (‹x.size=true›.symm.trans ‹x.size=false›) ab|exact absurd (‹x.range=true›.symm.trans ‹x.range=false›) ab
 . have j := j aa aa
   have i:=i aa aa aa;refine zw func112 ?_;refine zg ?_
   repeat' ((first|(refine zb ?_ ?_<;>(first|exact⟨⟩|intro h)<;>try (exfalso;first|omega|(simp[bK,aZ,eV] at h;done)))|(refine zh rfl (ib x.d) ?_;rintro _ ⟨z,rfl,c⟩)|(refine zh rfl (ib x.a) ?_;rintro _ ⟨z,rfl,c⟩)|(refine zh rfl (ib x.b) ?_;rintro _ ⟨z,rfl,c⟩)|(refine zh rfl (ib d) ?_;rintro _ ⟨z,rfl,c⟩)|(refine zh rfl (ib a) ?_;rintro _ ⟨z,rfl,c⟩)|(refine zh rfl (ib b) ?_;rintro _ ⟨z,rfl,c⟩)|(refine zh rfl (Jv x e) ?_;rintro _ rfl)|(refine zh rfl (Jv { x with d:=d,a:=a,b:=b,l:=l,n:=n,m:=m } e) ?_;rintro _ rfl)|(refine DC.pure rfl (Dm x.f.l x.f.h) ?_;rintro _ rfl)|(refine DC.pure rfl (yP x.y.l x.y.h) ?_;rintro _ rfl))<;>refine zg ?_)
   all_goals first|exact⟨⟩|exact absurd (‹x.size=true›.symm.trans ‹x.size=false›) ab|exact absurd (‹x.range=true›.symm.trans ‹x.range=false›) ab
end Go.Ago
section
namespace Go.Ago
open Go.Proofs List Nat Tryz
attribute [local irreducible] bN bM aZ bK b_ wr bp bL comp DC DP DW DV
attribute [local irreducible] cj ej bT
attribute [local irreducible] dJ ct aL cH dP dI ec dX cB dM dR bV bn bB eA eL
def ko (a:List (List Int))(n:Nat):List (List Int):=(a.take n).map fun l=>ej l l.length 0
theorem YY {a}:ko a 0=[]:=rfl
theorem Lg {a:List (List Int)}{n:Nat}(h:n<a.length):ko a (n+1)=ko a n++[ej a[n] a[n].length 0]:=by
 unfold ko;rw[take_succ_eq_append_getElem h,map_append];rfl
theorem Dw {a:List (List Int)}{n:Nat}(h:n≤a.length):(ko a n).length=n:=by simp[ko,h]
theorem Le {a:List (List Int)}{n:Nat}{z:Int}(b:z=(n:Int))(h:n<a.length):((ko a a.length).map db)[z.toNat]? = some [aU (ej a[n] a[n].length 0)]:=by
 subst b;simp only[ko,take_length,Int.toNat_natCast,getElem?_map,getElem?_eq_getElem h];rfl
theorem Li {o:List Int}{L:Nat}{z w:Int}(h0:0≤z)(h:z.toNat≤L)(b:((cj o z.toNat:Nat):Int)=w):((ej o L 0).map fun n=>[i64 n])[z.toNat]? = some [i64 w]:=by
 have c:z.toNat<(ej o L 0).length:=by rw[qU];omega
 have a:=Y0 (o:=o) h
 grind
theorem Lf {a:List (List Int)}{n:Nat}{z:Int}(b:z=(n:Int))(h:n<a.length):bp z ((ko a a.length).map db).length=true:=by
 rw[length_map,Dw (ag),hZ];omega
theorem Lj {o:List Int}{L:Nat}{z:Int}(h0:0≤z)(h:z.toNat≤L):bp z ((ej o L 0).map fun n=>[i64 n]).length=true:=by
 rw[length_map,qU,hZ];omega
theorem ZA {i:Ins}(h:i.op=16):bT i=[]:=by unfold bT;grind
theorem sY {i:Ins}{l:List Int}(h:bT i=l):af 73 [i.av] (fun a=>a = .ret (aU l)):=by subst h;exact sX i
attribute [local irreducible] ko
theorem Qu (c d:Cd)(a:List (List Int))(I:kX c d a)(hc:cE c)(hd:cE d)(v:∀l∈a,l.length≤2000)(hfew:a.length≤1000):af 59 [.agg (c.cells++d.cells++[.ak 1 (a.map fun l=>[aU l])])] (fun ae=>ae = .ret (.bool true)):=by
 obtain⟨dp,g⟩:=d;obtain rfl:dp=c.p:=I.pr;have K:g.l.length=c.b.l.length:=I.lc;have N:a.length=c.b.l.length:=I.lo;have A:∀(q:Nat) (s:q<a.length) (V:q<g.l.length),a[q].length=g.l[q].ins.l.length:=fun q h X=>I.ol q X h
 have u:∀(q:Nat) (s:q<a.length) (U:q<c.b.l.length),a[q].filter da=bC c.b.l[q].ins.l.length:=fun q h Y=>I.p4 q Y h
 have D:∀(q:Nat) (s:q<a.length) (V:q<g.l.length) (U:q<c.b.l.length) (p:Nat) (k:p<a[q].length) (P:p<g.l[q].ins.l.length),(a[q][p] = -1∧g.l[q].ins.l[p].op=3)∨∃n:Nat,n<c.b.l[q].ins.l.length∧a[q][p]=(n:Int):=fun q h X Y p k P=>by
  have:=I.row q Y X h p P;rw[dL k] at this;rcases this with r|⟨n,L,e,_⟩
  . exact .inl r
  . exact .inr ⟨n,L,e⟩
 have O:∀(q:Nat) (s:q<a.length) (p:Nat) (k:p<a[q].length),a[q][p] = -1∨∃n:Nat,a[q][p]=(n:Int):=fun q h p k=>by
  rcases D q h aa aa p k (by rw[<-A q h aa];exact k) with r|⟨n,_,e⟩
  . exact .inl r.1
  . exact .inr ⟨n,e⟩
 refine zw func59 ?_;refine zg ?_
 repeat' ((first|(refine DC.pure rfl (WY c.p) ?_;rintro _ rfl)|(refine DC.pure rfl (UN c ⟨c.p,g⟩ a K N v A D u) ?_;rintro _ rfl))<;>refine zg ?_)
 refine DW.aO aC aD [1,2,28] [] 2000 (fun x:{x:Nat×List (List Int) // x.2=ko a x.1∧x.1≤a.length}=>[(29,i64 x.1.1),(3,fc 1000 1 (x.1.2.map db))]) (fun x=>e_ 1000 1 (x.1.2.map db)) [(1000,.slot 3)] (fun x=>a.length+1 - x.1.1) (⟨(0,[]),YY.symm,zero_le _⟩) ?_
 refine zl fun x=>?_
 rcases x with⟨⟨m,_|⟨y,H⟩⟩,F,w⟩
 . dsimp only at F w
   have i_len:=congrArg length F;rw[Dw w] at i_len;simp only[length_nil] at i_len;refine zg ?_
   repeat' ((first|refine zf ?_|(refine zp ?_ ?_<;>intro h)|(refine DC.pure rfl (Ll c ⟨c.p,g⟩ a m aa aa (v _ (getElem_mem _)) (O m aa) (u m aa aa)) ?_;rintro _ rfl))<;>refine zg ?_)
   . (refine⟨⟨(m+1,[ej (a[m]'aa) (a[m]'aa).length 0]),(by rw[Lg aa,<-F];rfl),aa⟩,Nn,rfl,bG⟩)
   refine DW.aO aC aD [1,2,3,40,41] [] 0 (fun x:{q:Nat // q≤a.length}=>[(42,i64 x.1)]) (fun _=>[]) [] (fun x=>a.length - x.1) (⟨0,zero_le _⟩) ?_
   refine zl fun x=>?_
   obtain⟨q,hq1⟩:=x;dsimp only;refine zg ?_
   repeat' ((refine zp ?_ ?_<;>first|exact⟨⟩|intro h)<;>refine zg ?_)
   all_goals exact⟨⟩
 . dsimp only at F w
   have i_len:=congrArg length F;rw[Dw w] at i_len;simp only[length_cons] at i_len;refine zg ?_
   repeat' ((first|refine zf ?_|(refine Rq.mk (di 24 2000 ag rfl rfl mF ab) ?_)|(refine zp ?_ ?_<;>intro h)|(refine DC.pure rfl (Ll c ⟨c.p,g⟩ a m aa aa (v _ (getElem_mem _)) (O m aa) (u m aa aa)) ?_;rintro _ rfl))<;>refine zg ?_)
   . (refine⟨⟨(m+1,y::(H++[ej (a[m]'aa) (a[m]'aa).length 0])),(by rw[Lg aa,<-F];rfl),aa⟩,Nn,rfl,bG⟩)
   have hml:m=a.length:=aa;refine DW.ov 1000 (.arr 1 ((y::H).map db)) [(1,_),(2,_),(3,(.ak 1 ((ko a a.length).map db))),(40,_),(41,_),(42,_)] [(0,_)] rfl ⟨⟨_,rfl,.inl rfl⟩,⟨⟨_,rfl,.inl rfl⟩,⟨⟨_,rfl,.inr (by rw[show ko a a.length=y::H by rw[F,hml]];exact qQ (f:=db) (fun _=>rfl) rfl)⟩,⟨⟨_,rfl,.inl rfl⟩,⟨⟨_,rfl,.inl rfl⟩,⟨⟨_,rfl,.inl rfl⟩,trivial⟩⟩⟩⟩⟩⟩ ⟨⟨ab,_,rfl,.inl rfl⟩,trivial⟩ ?_
   refine DW.aO aC aD [1,2,3,40,41] [] 0 (fun x:{q:Nat // q≤a.length}=>[(42,i64 x.1)]) (fun _=>[]) [] (fun x=>a.length - x.1) (⟨0,zero_le _⟩) ?_
   refine zl fun x=>?_
   obtain⟨q,hq1⟩:=x;dsimp only;rcases Nat.lt_or_ge q a.length with s|s
   . have z : q < g.l.length := aa
     have hqc:q<c.b.l.length:=aa;have hl:=A q s z;have hs2:=v _ (getElem_mem s);refine zg ?_
     repeat' ((refine zp ?_ ?_<;>first|exact⟨⟩|intro h)<;>refine zg ?_)
     refine DW.aO aC aD [1,2,3,5,6,40,41,42,43,44,45,46,47,48] [] 0 (fun x:{p:Nat // p≤a[q].length}=>[(49,i64 x.1)]) (fun _=>[]) [] (fun x=>a[q].length - x.1) (⟨0,zero_le _⟩) ?_
     refine zl fun x=>?_
     obtain⟨p,hp1⟩:=x;dsimp only;rcases Nat.lt_or_ge p a[q].length with k|k
     . have G : p < g.l[q].ins.l.length := aa
       have hr:=I.row q hqc z s p G;rw[dL k] at hr;rcases hr with⟨S,_⟩|⟨n,L,S,i,C,B⟩
       . refine zg ?_
         repeat' ((refine zp ?_ ?_<;>first|exact⟨⟩|intro h)<;>refine zg ?_)
         exact zi ⟨p+1,k⟩
       . have Z := hd.jv z _ (getElem_mem G)
         rcases j:bT g.l[q].ins.l[p] with _|⟨t',_|⟨t2,r⟩⟩
         . rw [j, map_nil] at C
           have o:=C.symm
           by_cases M:c.b.l[q].ins.l[n].op=16
           . have Q : g.l[q].ins.l[p].op = 16 := i.op.trans M
             obtain⟨g1,g2,g3,g4⟩:=kD hd.ok z (getElem_mem G) Q;have J:g.l[q].ins.l[p].p=c.b.l[q].ins.l[n].p:=i.p;have B:=B M;have T:c.b.l[q].ins.l[n].p.toNat<a.length:=by rw[N,<-K,<-J];exact g1
             have g6:c.b.l[q].ins.l[n].p=((c.b.l[q].ins.l[n].p.toNat:Nat):Int):=aa;rw[show a.getD c.b.l[q].ins.l[n].p.toNat []=a[c.b.l[q].ins.l[n].p.toNat] by simp[getD,T]] at B
             have R:g.l[q].ins.l[p].n.toNat≤a[c.b.l[q].ins.l[n].p.toNat].length:=by
              rw[A _ T (by rw[<-J];exact g1)]
              simp only[J] at g4;exact Int.toNat_le.2 g4
             refine zk ?_
             repeat' ((first|refine ay.mk _ (lI L S) ?_|refine Rq.mk (Lf g6 T) ?_|refine Rq.mk (Lj g3 R) ?_|refine ay.mk _ (Le g6 T) ?_|refine ay.mk _ (Li g3 R B) ?_|(refine zp ?_ ?_<;>first|exact⟨⟩|intro h)|refine ay.mk _ (bI aa) ?_|(refine DC.pure rfl (zY c.b.l[q].ins.l[n] g.l[q].ins.l[p] i) ?_;rintro _ rfl)|(refine zh rfl (sY o) ?_;rintro _ rfl)|(refine zh rfl (sY j) ?_;rintro _ rfl))<;>refine zk ?_)
             exact zi ⟨p+1,k⟩
           . refine zk ?_
             repeat' ((first|refine ay.mk _ (lI L S) ?_|(refine zp ?_ ?_<;>first|exact⟨⟩|intro h)|refine ay.mk _ (bI aa) ?_|(refine DC.pure rfl (zY c.b.l[q].ins.l[n] g.l[q].ins.l[p] i) ?_;rintro _ rfl)|(refine zh rfl (sY o) ?_;rintro _ rfl)|(refine zh rfl (sY j) ?_;rintro _ rfl))<;>refine zk ?_)
             exact zi ⟨p+1,k⟩
         . rw [j, map_cons, map_nil] at C
           have o:=C.symm;have cF:c.b.l[q].ins.l[n].op≠16:=fun h=>by rw[ZA h] at o;cases o
           have E:=Z.t t' (by rw[j];exact mem_cons_self)
           have R:t'.toNat≤a[q].length:=by rw[hl];exact Int.toNat_le.2 E.2
           refine zk ?_
           repeat' ((first|refine ay.mk _ (lI L S) ?_|refine Rq.mk (Lf rfl s) ?_|refine Rq.mk (Lj E.1 R) ?_|refine ay.mk _ (Le rfl s) ?_|refine ay.mk _ (Li E.1 R rfl) ?_|(refine zp ?_ ?_<;>first|exact⟨⟩|intro h)|refine ay.mk _ (bI aa) ?_|(refine DC.pure rfl (zY c.b.l[q].ins.l[n] g.l[q].ins.l[p] i) ?_;rintro _ rfl)|(refine zh rfl (sY o) ?_;rintro _ rfl)|(refine zh rfl (sY j) ?_;rintro _ rfl)|refine zo ?_)<;>refine zk ?_)
           exact zi ⟨p+1,k⟩
         . have := @yX g.l[q].ins.l[p]
           rw[j] at this;simp at this
     . refine zg ?_
       repeat' ((refine zp ?_ ?_<;>first|exact⟨⟩|intro h)<;>refine zg ?_)
       exact zi ⟨q+1,s⟩
   . refine zg ?_
     repeat' ((refine zp ?_ ?_<;>first|exact⟨⟩|intro h)<;>refine zg ?_)
     all_goals exact⟨⟩
end Go.Ago
end
namespace Go.Ago
open Go.Proofs List Nat Tryz
attribute [local irreducible] bN bM aZ bK b_ wr bp bL comp DC DP DW DV
attribute [local irreducible] dJ ct aL cH dP dI ec dX cB dM dR bV bn bB eA fS lV dc aX aT aH dS
structure mM (g:Gr)(C:List (List aA))(k:Int)(m:Nat)(pl:List Int):Prop where
 pn:pl.length=g.aj.toNat
 jK:∀r:Nat,r<m->eO pl k (r:Int)
 le:m≤g.aj.toNat
 sep:∀r o:Nat,r<m->o<r->bB (aK C r) o=true->pl.getD r 0≠pl.getD o 0
theorem mM.start {g:Gr}{C:List (List aA)}{k:Int}:mM g C k 0 (replicate g.aj.toNat 0):=⟨ag,fun r h=>absurd h (ag),zero_le _,fun r o h=>absurd h (ag)⟩
def n0 (L pl:List Int)(m j:Nat)(a:List Bool):Prop:=∀r∈L.take j,r<(m:Int)->a.getD (pl.getD r.toNat 0).toNat false=true
theorem n0.skip {L pl:List Int}{m j:Nat}{c:List Bool}(h:n0 L pl m j c)(d:j<L.length)(e:¬L[j]<(m:Int)):n0 L pl m (j+1) c:=fun r a b=>by
 rw[take_succ_eq_append_getElem d] at *;rcases mem_append.1 a with a|a
 . exact h r a b
 grind
theorem n0.put {L pl:List Int}{m j:Nat}{c:List Bool}(h:n0 L pl m j c)(d:j<L.length){x:Nat}(g:x=(pl.getD L[j].toNat 0).toNat)(f:x<c.length):n0 L pl m (j+1) (c.set x true):=fun r a b=>by
 rw[getD_eq_getElem?_getD,getElem?_set];rw[take_succ_eq_append_getElem d] at a
 by_cases e:x=(pl.getD r.toNat 0).toNat
 . rw[if_pos e,if_pos f];rfl
 . rw [if_neg e, <-getD_eq_getElem?_getD]
   rcases mem_append.1 a with a|a
   . exact h r a b
   grind
theorem mM.next {g:Gr}{C:List (List aA)}{k:Int}{m:Nat}{pl L:List Int}{f:List Bool}{j:Nat}(h:mM g C k m pl)(d:m<g.aj.toNat){i:Int}(hi:0≤i∧i<k)(p:m<C.length)(q:bn C[m] g.aj.toNat=L)(v:kA f i)(w:n0 L pl m j f)(x:L.length≤j):mM g C k (m+1) (pl.set m i):=by
 have b:m<pl.length:=by rw[h.pn];exact d
 refine⟨by rw[length_set];exact h.pn,fun r t=>?_,d,fun r o t u l=>?_⟩
 . have := eO.put (pl := pl) (k := k) (r := (m : Int)) (i := i) (s := (r : Int)) (by simpa using b) hi fun a => h.jK r (by simp at a; omega)
   simpa using this
 . rw [uw b, uw b, if_neg (by omega : ¬ o = m)]
   by_cases e:r=m
   . subst e
     rw[if_pos rfl];intro y;have z:aK C r=C[r]:=by simp[aK,getD,p]
     have c:=w (o:Int) (by rw[take_of_length_le x,<-q];exact ny.2 ⟨o,rfl,aa,by rw[<-z];exact l⟩) aa
     rw[Int.toNat_natCast,<-y,GV v hi.1] at c;cases c
   . rw [if_neg e]
     exact h.sep r o aa u l
theorem Ci {a:List Int}{r:Int}(h:r = -1∨0≤r):fS a r=dc a r:=by
 unfold fS dc;omega
theorem Xn {g:Gr}(k:gz g){i:Ins}(hi:i∈g.ins.l)(j:i.d = -1∨hasB i.op 68=true){c:List Int}:nK i c=dY i c c:=by
 have h:=k.ins i hi;have s:fS c i.a=dc c i.a:=Ci (h.a.imp id (·.1));have p:fS c i.b=dc c i.b:=Ci (h.b.imp id (·.1));have q:i.l.l.map (fS c)=i.l.l.map (dc c):=map_congr_left fun r n=>Ci (.inr (h.l r n).1)
 have m:fS c i.d=if 0≤aH i then c.getD i.d.toNat 0 else i.d:=by
  unfold fS
  by_cases e:i.d = -1
  . unfold aH
    grind
  . rw [if_neg e]
    have o:=j.resolve_left e;have f:0≤i.d:=(h.d.resolve_left e).1;rw[if_pos (by unfold aH;rw[if_pos o];exact f)]
 unfold nK dY gG
 grind
theorem FP {g:Gr}(n:gz g)(m:∀i∈g.ins.l,i.d = -1∨hasB i.op 68=true){S C:List (List aA)}{k:Int}{pl:List Int}(f:nZ g S C g.ins.l.length)(h:mM g C k g.aj.toNat pl):j2 g S k (fun _=>pl) (g.ins.l.map fun i=>nK i pl):=by
 have q:=n.ok;refine⟨⟨length_map _,Nat.le_refl _,fun p a v=>by rw[getElem_map];exact Xn n (getElem_mem a) (m _ (getElem_mem a)),fun p _ r o _=>h.jK r aa,fun p a _ c=>?_,fun p a _ s c r o t j=>?_,fun _ _ _ _ _ _ _ _=>rfl⟩,fun _ _ _=>rfl⟩
 . have := h.jK (aH g.ins.l[p]).toNat (by have := q.ga _ (getElem_mem a); omega)
   rw[Int.toNat_of_nonneg c] at this;exact this
 . have x := q.ga _ (getElem_mem a)
   obtain⟨w,u⟩:=f p r a a c s o t j
   (try dsimp only)
   by_cases e:r<(aH g.ins.l[p]).toNat
   . exact(h.sep _ r aa e w).symm
   . exact h.sep r _ aa aa u
theorem RW {a:List Bool}{i:Int}(h:kA a i):i = -1∨(0≤i∧i<a.length):=h.elim (fun h => .inl h.1) fun h => .inr ⟨h.1,h.2.1⟩
def Eo (g:Gr)(k:Int)(v:AV)(b:Bool):Prop:=
 (b=false∧v = .agg [i64 0,.ah])∨(b=true∧∃(a:Bd) (S:List (List aA)) (W:Nat->List Int),v=a.av∧a.aj=k∧fy g S∧j2 g S k W a.ins.l)
theorem Qj (g:Gr)(E:gz g)(hbd:∀i∈g.ins.l,i.d = -1∨hasB i.op 68=true)(k:Int)(hk:0≤k∧k≤4000):af 43 [g.av,i64 k] (fun ae=>∃x b,ae = .ret (.ao [x,.bool b])∧∃v,mP x v∧Eo g k v b):=by
 refine zw func43 ?_;have q:=E.ok;have hil:=g.ins.h;have hfew:=q.eU;have D:=q.aj;have hge:=mj q;have hnw:=qt q;refine zg ?_
 repeat' ((first|refine Rq.mk (sr (l':=g.aj) rfl rfl aa ab rfl) ?_|(refine DC.pure rfl (P0 g q) ?_;rintro _ ⟨C,S,rfl,hC,hS,G⟩))<;>refine zg ?_)
 have hCl:=hC.len;refine DW.aO aC aD [1,2,4,5,6,21,22] [5] 200 (fun x:{x:Nat×List Int // mM g C k x.1 x.2}=>[(23,i64 x.1.1)]) (fun x=>[(5,.arr 1 (x.1.2.map ic))]) [] (fun x=>g.aj.toNat+1 - x.1.1) (⟨(0,replicate g.aj.toNat 0),mM.start⟩) ?_
 conv=>whnf
 refine⟨?_,fun x=>?_⟩
 . conv => whnf
   (exact Eb)
 rcases x with⟨⟨m,pl⟩,hx⟩
 have w:=hx.pn;have hmb:=hx.le;have p:=hx.jK;dsimp only at w hmb p;refine zk ?_
 repeat' ((first|refine Rq.mk (sr (l':=k) rfl rfl aa ab rfl) ?_|refine ay.mk _ (bI (l:=C) (i:=m) aa) ?_|(refine DC.pure rfl (mh (C[m]'aa) (J7 q hC aa).1 g.aj ⟨D.1,(J7 q hC aa).2⟩) ?_;rintro _ rfl)|(refine zp ?_ ?_<;>intro h))<;>refine zk ?_)
 . have o : m < C.length := aa
   have a:∀(j:Nat) (h:j<(bn (C[m]'o) g.aj.toNat).length),0≤(bn (C[m]'o) g.aj.toNat)[j]∧(bn (C[m]'o) g.aj.toNat)[j]<g.aj:=fun j h=>ns (getElem_mem h)
   have hLl:(bn (C[m]'o) g.aj.toNat).length≤1000:=by have:=@sf (C[m]'o) g.aj.toNat;omega
   have B:∀(r:Int) (h0:0≤r) (h:r.toNat<pl.length),r<(m:Int)->0≤pl[r.toNat]∧pl[r.toNat]<k:=fun r h0 h hr=>by
    have:=p r.toNat aa;unfold eO at this;rw[show((r.toNat:Nat):Int)=r by omega,qc h] at this
    exact this
   generalize hLd:bn (C[m]'o) g.aj.toNat=L at a hLl
   refine DW.aO aC aD [1,2,4,5,6,7,8,9,21,22,23,24,25,26,27,28,29,30,31,32,33,34] [218] 200 (fun y:{y:Nat×List Bool // y.2.length=k.toNat∧y.1≤L.length∧n0 L pl m y.1 y.2}=>[(35,i64 y.1.1)]) (fun y=>[(218,.arr 1 (y.1.2.map bc))]) [] (fun y=>L.length+1 - y.1.1) (⟨(0,replicate k.toNat false),ag,zero_le _,(fun r hr=>by cases hr)⟩) ?_
   conv=>whnf
   refine⟨?_,fun y=>?_⟩
   . conv => whnf
     (exact Eb)
   rcases y with⟨⟨j,H⟩,s,hy2,u⟩
   dsimp only at s hy2 u;refine zk ?_
   repeat' ((first|refine ay.mk _ (bI (l:=L) (i:=j) aa) ?_|refine Rq.mk (r9 (a j aa) aa) ?_|(refine cb (fh (l:=pl) (by have:=a j aa;omega)) ?_)|(refine Rq.mk (r9 (B (L[j]'aa) (a j aa).1 (by have:=a j aa;omega) h) aa) ?_)|(refine cb (fh (l:=H) (by have:=B (L[j]'aa) (a j aa).1 (by have:=a j aa;omega) h;omega)) ?_)|(refine DC.flat (aJ (gu (f:=bc) (l:=H) (n:=19) (fun _=>rfl) rfl rfl s.symm) rfl) (xf ⟨H,aa⟩) ?_;rintro _ ⟨i,rfl,hi⟩;have hi2:=RW hi;refine⟨rfl,?_⟩)|(refine cb (xM (l:=pl) (r:=((m:Nat):Int).toNat) ez) ?_)|(refine cb (fh (l:=pl) (n:=((m:Nat):Int)) ez) ?_)|(refine zp ?_ ?_<;>intro h))<;>refine zk ?_)
   . (refine⟨⟨(j+1,H.set (pl[(L[j]'aa).toNat]'(by have:=a j aa;omega)).toNat true),by rw[length_set];exact s,bG,u.put aa (by rw[qc]) (by have:=B (L[j]'aa) (a j aa).1 (by have:=a j aa;omega) h;omega)⟩,vq,rfl,bG⟩)
   . (refine⟨⟨(j+1,H),s,bG,u.skip aa aa⟩,vq,rfl,bG⟩)
   . exact⟨_,_,rfl,_,.r,.inl ⟨rfl,rfl⟩⟩
   . have hi3 : 0 ≤ i ∧ i < k := by have h9 := hi2; dsimp only at h9; omega
     (refine⟨⟨(m+1,pl.set m i),hx.next aa hi3 o hLd hi u aa⟩,vq,rfl,bG⟩)
 . refine DW.ov 5 (.arr 1 (pl.map ic)) [(4, _), (5, _), (6, .ak 1 (pl.map ic)), (12, _), (64, _), (65, _), (66, _)] [(1, _), (214, _)] rfl ⟨⟨_, rfl, .inl rfl⟩, ⟨⟨_, rfl, .inl rfl⟩, ⟨⟨_, rfl, .inr (gu (f := ic) (l := pl) (n := 19) (fun _ => rfl) rfl rfl w.symm)⟩, ⟨⟨_, rfl, .inl rfl⟩, ⟨⟨_, rfl, .inl rfl⟩, ⟨⟨_, rfl, .inl rfl⟩, ⟨⟨_, rfl, .inl rfl⟩, trivial⟩⟩⟩⟩⟩⟩⟩ ⟨⟨ab, _, rfl, .inl rfl⟩, ⟨⟨ab, _, rfl, .inl rfl⟩, trivial⟩⟩ ?_
   have F:∀t∈pl,0≤t:=fun t ht=>by
    obtain⟨r,hr,rfl⟩:=mem_iff_getElem.1 ht;have:=p r aa;unfold eO at this;rw[Int.toNat_natCast,qc hr] at this;exact this.1
   have A:(pl.length:Int)=g.aj:=aa;have hx9 : mM g C k g.aj.toNat pl := by have e9 : m = g.aj.toNat := aa;rw[<-e9];exact hx
   refine DW.aO aC aD [4,5,6,12,64,65] [214] 4000 (fun x:{x:Nat×List Ins // x.2=(g.ins.l.take x.1).map (fun i=>nK i pl)∧x.1≤g.ins.l.length}=>[(66,i64 x.1.1)]) (fun x=>(214,.arr 2 [[i64 k,fc 2000 29 (x.1.2.map Ins.cells)]])::e_ 2000 29 (x.1.2.map Ins.cells)) [(2000,.cell 214 1)] (fun x=>g.ins.l.length+1 - x.1.1) (⟨(0,[]),rfl,zero_le _⟩) ?_
   conv=>whnf
   refine⟨?_,fun x=>?_⟩
   . conv => whnf
     (exact Eb)
   rcases x with⟨⟨n,_|⟨z,acc⟩⟩,hm,hnb⟩
   . dsimp only at hm hnb
     have i_len:=congrArg length hm;simp only[length_nil,length_cons,length_map,length_take] at i_len;refine zk ?_
     repeat' ((first|refine zf ?_|refine ay.mk _ (bI (l:=g.ins.l) (i:=n) aa) ?_|(refine zp ?_ ?_<;>intro h)|(refine DC.pure rfl (JX (g.ins.l[n]'aa) ⟨pl,aa⟩ (q.h_ _ (getElem_mem _)) (JS E A F (getElem_mem _))) ?_;rintro _ rfl))<;>refine zk ?_)
     . (refine⟨⟨(n+1,[nK (g.ins.l[n]'aa) pl]),Np,bG⟩,vq,rfl,bG⟩)
     . have e : g.ins.l = [] := eq_nil_of_length_eq_zero aa
       have hF:=FP E hbd G hx9;rw[e] at hF;exact⟨_,_,rfl,(Bd.mk k ⟨[],ab⟩).av,.inr ⟨_,_,rfl,rfl,.r,.n,trivial⟩,.inr ⟨rfl,_,S,_,rfl,rfl,hS,hF⟩⟩
   . dsimp only at hm hnb
     have i_len:=congrArg length hm;simp only[length_nil,length_cons,length_map,length_take] at i_len;refine zk ?_
     repeat' ((first|refine zf ?_|(refine Rq.mk (di 304 2000 ag rfl rfl mF ab) ?_)|refine ay.mk _ (bI (l:=g.ins.l) (i:=n) aa) ?_|(refine zp ?_ ?_<;>intro h)|(refine DC.pure rfl (JX (g.ins.l[n]'aa) ⟨pl,aa⟩ (q.h_ _ (getElem_mem _)) (JS E A F (getElem_mem _))) ?_;rintro _ rfl))<;>refine zk ?_)
     . (refine⟨⟨(n+1,z::(acc++[nK (g.ins.l[n]'aa) pl])),Np,bG⟩,vq,rfl,bG⟩)
     . generalize hg2 : snap _ 20 _ = rr
       obtain rfl:=hg2.symm.trans (qT (n:=19) (nR (n:=18) (aJ rfl (aJ (gV (f:=Ins.cells) (n:=17) (fun _=>rfl) rfl) rfl))) rfl)
       conv=>whnf
       have hF:=FP E hbd G hx9;rw[take_of_length_le aa] at hm;rw[<-hm] at hF;exact⟨_,_,rfl,(Bd.mk k ⟨z::acc,by rw[length_cons,i_len];omega⟩).av,.r,.inr ⟨rfl,_,S,_,rfl,rfl,hS,hF⟩⟩
theorem Qi (g:Gr)(e:gz g)(a:∀i∈g.ins.l,i.d = -1∨hasB i.op 68=true)(k:Int)(f:0≤k∧k≤4000):af 43 [g.av,i64 k] (fun h=>∃v b,h = .ret (.ao [v,.bool b])∧Eo g k v b):=by
 refine(Qj g e a k f).oI ?_
 rintro _ ⟨x,b,rfl,v,j,c⟩
 exact⟨_,.ao [v,.bool b],rfl,.inr ⟨_,_,rfl,rfl,j,.r,trivial⟩,v,b,rfl,c⟩
end Go.Ago
