/-
  Part A24: lemmas, each with its own conditions.
-/
import Derived.Test.YthaolifcglpkdaaGreatDoorA23
set_option maxRecDepth 100000
set_option maxHeartbeats 0
set_option linter.all false
section
namespace Go.Ago
open Go.Proofs List Nat Tryz
theorem DP.iZ {g:FuncId}{args:List AV}{p:Bool->Prop}(h:af g args (ca p)):∃b,p b∧af g args (fun c=>c = .ret (.bool b)):=by
 obtain⟨_,h,b,rfl,a⟩:=h;exact⟨b,a,_,h,rfl⟩
theorem DP.xB {α:Type}{g:FuncId}{args:List AV}{f:α->AV}{p:α->Prop}(h:af g args (fun a=>∃x,a = .ret (f x)∧p x)):∃x,p x∧af g args (fun a=>a = .ret (f x)):=by
 obtain⟨_,h,b,rfl,c⟩:=h;exact⟨b,c,_,h,rfl⟩
end Go.Ago
namespace Go.Ago
open Go.Proofs List Nat Tryz
attribute [local irreducible] bN bM aZ bK b_ wr bp bL comp DC DP DW DV
attribute [local irreducible] dJ ct aL cH dP dI ec dX
noncomputable def nN (t:Ty):Bool:=Classical.choose (DP.iZ (xb t))
theorem XW (t:Ty):af 101 [t.av] (fun b=>b = .ret (.bool (nN t))):=(Classical.choose_spec (DP.iZ (xb t))).2
noncomputable def nH (t:Ty):Bool:=Classical.choose (DP.iZ (CP t))
theorem Jn (t:Ty):af 105 [t.av] (fun b=>b = .ret (.bool (nH t))):=(Classical.choose_spec (DP.iZ (CP t))).2
noncomputable def l5 (t:Ty):Bool:=Classical.choose (DP.iZ (Fs t))
theorem PH (t:Ty):af 152 [t.av] (fun b=>b = .ret (.bool (l5 t))):=(Classical.choose_spec (DP.iZ (Fs t))).2
noncomputable def pS (t:Ty)(v:Vl):Int:=Classical.choose (DP.nz (wj t v))
theorem Qw (t:Ty)(v:Vl):af 102 [t.av,v.av] (fun b=>b = .ret (i64 (pS t v))):=(Classical.choose_spec (DP.nz (wj t v))).2
noncomputable def nq (t:Ty)(b:Int)(l:BL Ty):Bool:=Classical.choose (DP.iZ (Hs t b l))
theorem BZ (t:Ty)(b:Int)(l:BL Ty):af 104 [t.av,i64 b,iN l.l] (fun c=>c = .ret (.bool (nq t b l))):=(Classical.choose_spec (DP.iZ (Hs t _ l))).2
theorem JK (b n:Int)(l:BL Ty):∃x:Ty×Int,True∧af 106 [i64 b,i64 n,iN l.l] (fun a=>a = .ret (.ao [x.1.av,i64 x.2])):=DP.xB ((Ex _ n l).mono (ag))
noncomputable def oT (b n:Int)(l:BL Ty):Ty×Int:=Classical.choose (JK b n l)
theorem Xf (b n:Int)(l:BL Ty):af 106 [i64 b,i64 n,iN l.l] (fun c=>c = .ret (.ao [(oT b n l).1.av,i64 (oT b n l).2])):=(Classical.choose_spec (JK _ n l)).2
noncomputable def l9 (p:cR)(n:Int)(l:BL Int):Bool:=Classical.choose (DP.iZ (xd p n l))
theorem Bi (p:cR)(n:Int)(l:BL Int):af 148 [p.av,i64 n,aU l.l] (fun b=>b = .ret (.bool (l9 p n l))):=(Classical.choose_spec (DP.iZ (xd p n l))).2
noncomputable def oc (p:cR)(c n:Int):Bool:=Classical.choose (DP.iZ (Hq p c n))
theorem OF (p:cR)(c n:Int):af 156 [p.av,i64 c,i64 n] (fun b=>b = .ret (.bool (oc p c n))):=(Classical.choose_spec (DP.iZ (Hq p c n))).2
theorem GR (l:BL Fm):∃x:Bool×Bool,True∧af 147 [ma l.l] (fun a=>a = .ret (.ao [.bool x.1,.bool x.2])):=DP.xB ((SO l).mono (ag))
noncomputable def lC (l:BL Fm):Bool×Bool:=Classical.choose (GR l)
theorem RP (l:BL Fm):af 147 [ma l.l] (fun b=>b = .ret (.ao [.bool (lC l).1,.bool (lC l).2])):=(Classical.choose_spec (GR l)).2
noncomputable def qX (l:BL Ty):Bool:=Classical.choose (DP.iZ (M_ l))
theorem Zv (l:BL Ty):af 149 [iN l.l,.fn (.func 150) [] []] (fun b=>b = .ret (.bool (qX l))):=(Classical.choose_spec (DP.iZ (M_ l))).2
noncomputable def oO (l:BL eC):Bool:=Classical.choose (DP.iZ (JC l))
theorem Wz (l:BL eC):af 96 [mo l.l,.fn (.func 97) [] []] (fun b=>b = .ret (.bool (oO l))):=(Classical.choose_spec (DP.iZ (JC l))).2
theorem D2 (p:cR)(a b:Int):∃x:Int×Bool×Int,(x.2.1=true->0≤b∧b<p.procs.l.length)∧af 198 [p.av,i64 a,i64 b] (fun c=>c = .ret (.ao [i64 x.1,.bool x.2.1,i64 x.2.2])):=DP.xB ((NH p a b).mono (ag))
noncomputable def mD (p:cR)(a b:Int):Int×Bool×Int:=Classical.choose (D2 p a b)
theorem ZW (p:cR)(a b:Int):(mD p a b).2.1=true->0≤b∧b<p.procs.l.length:=(Classical.choose_spec (D2 p a b)).1
theorem ZV (p:cR)(a b:Int):af 198 [p.av,i64 a,i64 b] (fun d=>d = .ret (.ao [i64 (mD p a b).1,.bool (mD p a b).2.1,i64 (mD p a b).2.2])):=(Classical.choose_spec (D2 p a b)).2
theorem Dd (p:cR)(a b:Int):∃x:Bool×Int,(x.1=true->1≤b∧b<p.procs.l.length)∧af 199 [p.av,i64 a,i64 b] (fun c=>c = .ret (.ao [.bool x.1,i64 x.2])):=DP.xB ((NF p a b).mono (ag))
noncomputable def nO (p:cR)(a b:Int):Bool×Int:=Classical.choose (Dd p a b)
theorem XY (p:cR)(a b:Int):(nO p a b).1=true->1≤b∧b<p.procs.l.length:=(Classical.choose_spec (Dd p a b)).1
theorem XX (p:cR)(a b:Int):af 199 [p.av,i64 a,i64 b] (fun d=>d = .ret (.ao [.bool (nO p a b).1,i64 (nO p a b).2])):=(Classical.choose_spec (Dd p a b)).2
def n_ (p:cR)(a b:Int):Prop:=(mD p a b).2.1=true∧(mD p a b).2.2=0
def mQ (p:cR)(a b:Int):Prop:=(nO p a b).1=true∧(nO p a b).2=0
theorem N3 (k:Kc)(b:Int):af 153 [k.av,i64 b] (fun e=>∃(n:Int) (x:Bool),e = .ret (.ao [i64 n,.bool x])∧(x=true↔n_ k.c.p k.proc b)):=by
 refine zw func153 ?_;have m:=k.c.p.procs.h;have g:=k.c.b.h;have i:=k.c.p.files.h;have f:=k.c.p.dv.h;have j:=k.c.p.conds.h;have l:=k.fK;have d:=k.hlen;refine zg ?_
 repeat' ((first|(refine zp ?_ ?_<;>intro h)|(refine DC.pure rfl (ZV k.c.p k.proc b) ?_;rintro _ rfl))<;>refine zg ?_)
 all_goals exact⟨_,_,rfl,by unfold n_;simp_all⟩
theorem Ks (k:Kc)(b:Int):af 154 [k.av,i64 b] (ca fun x=>x=true↔mQ k.c.p k.proc b):=by
 refine zw func154 ?_;have l:=k.c.p.procs.h;have f:=k.c.b.h;have g:=k.c.p.files.h;have e:=k.c.p.dv.h;have i:=k.c.p.conds.h;have j:=k.fK;have d:=k.hlen;refine zg ?_
 repeat' ((first|(refine zp ?_ ?_<;>intro h)|(refine DC.pure rfl (XX k.c.p k.proc b) ?_;rintro _ rfl))<;>refine zg ?_)
 all_goals (refine⟨_,rfl,?_⟩;unfold mQ;simp_all;done)
def kq (k:Kc)(r m:Int):Prop:=(r = -1∧m=0)∨(aL k r∧16≤m∧m≤4096)
def k_ (k:Kc)(r:Int)(x:Bool):Prop:=(x=true∧aL k r)∨(x=false∧r = -1)
theorem N2 (k:Kc)(e:0≤fj k∧fj k≤4000)(r m:Int):af 146 [k.av,i64 r,i64 m] (ca fun b=>b=true↔kq k r m):=by
 refine zw func146 ?_;have q:=k.c.p.procs.h;have g:=k.c.b.h;have i:=k.c.p.files.h;have j:=k.c.p.dv.h;have f:=k.c.p.conds.h;have n:=k.fK;have l:=k.hlen;refine zg ?_
 repeat' ((first|(refine zp ?_ ?_<;>intro h)|(refine DC.pure rfl (C1 k e r) ?_;rintro _ (⟨rfl,o⟩|⟨rfl,o⟩))|(refine DC.pure rfl (qj _ _ _) ?_;rintro _ (⟨rfl,d⟩|⟨rfl,d⟩)))<;>refine zg ?_)
 all_goals (refine⟨_,rfl,?_⟩;unfold kq;(simp_all;done))
theorem WB (k:Kc)(e:0≤fj k∧fj k≤4000)(r:Int)(x:Bool):af 155 [k.av,i64 r,.bool x] (ca fun b=>b=true↔k_ k r x):=by
 refine zw func155 ?_;have n:=k.c.p.procs.h;have g:=k.c.b.h;have i:=k.c.p.files.h;have f:=k.c.p.dv.h;have l:=k.c.p.conds.h;have j:=k.fK;have m:=k.hlen;refine zg ?_
 repeat' ((first|(refine zp ?_ ?_<;>intro h)|(refine DC.pure rfl (C1 k e r) ?_;rintro _ (⟨rfl,d⟩|⟨rfl,d⟩)))<;>refine zg ?_)
 all_goals (refine⟨_,rfl,?_⟩;unfold k_;(simp_all;done))
def ja (l:List eC):Nat->Int->Int->Int×Int
 | 0,p,m=>(p,m)
 | f+1,p,m=>if 0<m∧0<p then ja l f ((l[p.toNat]?.map (·.parent)).getD 0) (wr .i64 (m - 1)) else (p,m)
theorem CK {l:List eC}{f:Nat}{p m:Int}(h:¬(0<m∧0<p)):ja l f p m=(p,m):=by
 cases f with
 | zero=>rfl
 | succ n=>show(if _ then _ else _)=_;grind
theorem Wo {l:List eC}(i:jo l):∀(f:Nat) {p m:Int},p.toNat≤f->p.toNat<l.length->ja l f p m=ja l p.toNat p m:=by
 intro f
 induction f using Nat.strongRecOn with
 | ind f b =>
   intro p m n a
   by_cases h:0<m∧0<p
   . obtain ⟨t, k⟩ : ∃ t, p.toNat = t + 1 := ⟨p.toNat - 1, aa⟩
     obtain⟨g,e⟩:∃g,f=g+1:=⟨f - 1,aa⟩;have o:=(i p.toNat a a).2.1 aa;have j:ja l f p m=ja l g l[p.toNat].parent (wr .i64 (m - 1)):=by
      rw[e];show(if _ then _ else _)=_;rw[if_pos h,getElem?_eq_getElem a];rfl
     have c:ja l p.toNat p m=ja l t l[p.toNat].parent (wr .i64 (m - 1)):=by
      (conv=>lhs;rw[k]);show(if _ then _ else _)=_;rw[if_pos h,getElem?_eq_getElem a];rfl
     rw[j,c,b g aa aa aa,b t aa aa aa]
   . rw[CK h,CK h]
theorem Wp {l:List eC}(b:jo l){p m:Int}(a:p.toNat<l.length)(h:0<m∧0<p):ja l p.toNat p m=ja l (l[p.toNat].parent).toNat l[p.toNat].parent (wr .i64 (m - 1)):=by
 have d:=(b p.toNat a a).2.1 aa;obtain⟨t,e⟩:∃t,p.toNat=t+1:=⟨p.toNat - 1,aa⟩;have c:ja l p.toNat p m=ja l t l[p.toNat].parent (wr .i64 (m - 1)):=by
  (simp_all);show(if _ then _ else _)=_;grind
 rw[c,Wo b t aa aa]
def fQ (k:Kc)(n:Int):Int×Bool:=((ja k.c.p.procs.l k.proc.toNat k.proc n).1,decide ((ja k.c.p.procs.l k.proc.toNat k.proc n).2=0))
def n6 (k:Kc)(n:Int)(x:Int×Int):Prop:=(0≤x.2∧x.2<k.c.b.l.length)∧ja k.c.p.procs.l x.2.toNat x.2 x.1=ja k.c.p.procs.l k.proc.toNat k.proc n
theorem n6.next (k:Kc)(n:Int){m p:Int}(h:n6 k n (m,p))(e:0<m)(d:0<p)(a:p.toNat<k.c.p.procs.l.length):n6 k n (wr .i64 (m - 1),k.c.p.procs.l[p.toNat].parent):=by
 have f:=(k.hp _ a a).2.1 aa;have b:=k.hlen;refine⟨⟨f.1,aa⟩,?_⟩;rw[<-h.2];exact(Wp k.hp _ ⟨e,d⟩).symm
theorem n6.done (k:Kc)(n:Int){m p:Int}(h:n6 k n (m,p))(d:¬(0<m∧0<p)){b:Bool}(e:b=decide (m=0)) :
 (AE.ret (.ao [i64 p,.bool b]) = .ret (.ao [i64 (fQ k n).1,.bool (fQ k n).2]))∧0≤(fQ k n).1∧(fQ k n).1<k.c.b.l.length:=by
 have a:fQ k n=(p,b):=by
  unfold fQ;rw[<-h.2,CK d,e]
 rw[a];exact⟨rfl,h.1⟩
def mn (k:Kc)(x:Int):Int:=(k.c.p.procs.l[x.toNat]?.map (·.params)).getD 0
theorem Wv {k:Kc}{x:Int}(h:x.toNat<k.c.p.procs.l.length):mn k x=k.c.p.procs.l[x.toNat].params:=by unfold mn;grind
def lR (k:Kc)(i:Ins):Prop:=(i.n=1∧(fQ k i.m).2=true∧0≤i.m∧i.p=0)∨(i.n=3∧(fQ k i.m).2=true∧0≤i.m∧0≤i.p∧i.p≤mn k (fQ k i.m).1 - 1)∨(i.n=2∧i.m=0∧i.p=0)∨(i.n=5∧i.m=0∧0≤i.p∧i.p≤(k.c.p.dv.l.length:Int) - 1)
theorem Wt (k:Kc)(n:Int):af 144 [k.av,i64 n] (fun q=>q = .ret (.ao [i64 (fQ k n).1,.bool (fQ k n).2])∧0≤(fQ k n).1∧(fQ k n).1<k.c.b.l.length):=by
 refine zw func144 ?_;have t:=k.c.p.procs.h;have g:=k.c.b.h;have i:=k.c.p.files.h;have j:=k.c.p.dv.h;have o:=k.c.p.conds.h;have d:=k.fK;have s:=k.hlen
 conv=>whnf
 refine DW.aO aC aD [2,4,5] [] 0 (fun x:{x:Int×Int // n6 k n x}=>[(6,i64 x.1.2),(1,i64 x.1.1)]) (fun _=>[]) [] (fun x=>x.1.2.toNat) (⟨(n,k.proc),d,rfl⟩) ?_
 refine zl fun x=>?_
 obtain⟨⟨m,p⟩,a⟩:=x;have u:0≤p∧p<k.c.b.l.length:=a.1;have r:=k.hp p.toNat aa aa;refine zk ?_
 repeat' ((first|refine ay.mk _ (cU (l:=k.c.p.procs.l) (n:=p) aa) ?_|(refine zp ?_ ?_<;>first|exact⟨⟩|intro h))<;>refine zk ?_)
 all_goals first|(have f:=r.2.1 aa;refine⟨⟨(wr .i64 (m - 1),(k.c.p.procs.l[p.toNat]'aa).parent),a.next k n aa aa aa⟩,(by(conv=>whnf);(repeat' first|exact True.intro|apply And.intro|rfl)),rfl,bG⟩)|(refine n6.done k n a ?_ (decide_eq_true ?_).symm<;>omega)|(refine n6.done k n a ?_ (decide_eq_false ?_).symm<;>omega)
theorem Oj (k:Kc)(i:Ins):af 103 [k.av,i.av] (ca fun b=>b=true↔lR k i):=by
 refine zw func103 ?_;have w:=k.c.p.procs.h;have u:=k.c.b.h;have v:=k.c.p.files.h;have j:=k.c.p.dv.h;have o:=k.c.p.conds.h;have q:=k.fK;have r:=k.hlen;refine zg ?_
 repeat' ((first|(refine zp ?_ ?_<;>first|exact⟨⟩|intro h)|(refine DC.pure rfl (Wt k i.m) ?_;rintro _ ⟨rfl,s,t⟩)|(refine DC.pure rfl (qj _ _ _) ?_;rintro _ (⟨rfl,d⟩|⟨rfl,d⟩))|(refine zh rfl (qj _ _ _) ?_;rintro _ (⟨rfl,d⟩|⟨rfl,d⟩)))<;>refine zg ?_)
 all_goals first|(have e:=Wv (k:=k) (x:=(fQ k i.m).1) aa;have a:=k.hp (fQ k i.m).1.toNat aa aa;have f:=aF (n:=(k.c.p.procs.l[(fQ k i.m).1.toNat]'aa).params - 1) (by have:=a.2.2.2;omega) (by have:=a.2.2.2;omega);simp only[f,<-e] at *;refine⟨_,rfl,?_⟩;unfold lR;first|(simp_all;done)|grind)|(simp only[length_map] at d;rw[aF aa aa] at d;refine⟨_,rfl,?_⟩;unfold lR;(simp_all;done))|(refine⟨_,rfl,?_⟩;unfold lR;(simp_all;done))
end Go.Ago
end
section
namespace Go.Ago
open Go.Proofs List Nat Tryz
def nI (k:Kc)(x:Int):eC:=k.c.p.procs.l.getD x.toNat (k.c.p.procs.l[k.proc.toNat]'(by have:=k.fK;have:=k.hlen;omega))
theorem uR {k:Kc}{x:Int}(h:x.toNat<k.c.p.procs.l.length):nI k x=k.c.p.procs.l[x.toNat]:=by unfold nI;grind
theorem Ez {p:cR}{a b:Int}(h:n_ p a b):0≤b∧b<p.procs.l.length:=ZW p a b h.1
theorem rq {p:cR}{a b:Int}(h:mQ p a b):1≤b∧b<p.procs.l.length:=XY p a b h.1
def kv (k:Kc)(i:Ins)(a:Prop):Prop:=
 (i.op=14∧cH k k.proc i.n)∨(i.op=15∧a∧cH k k.proc i.n)∨(i.op=16∧n_ k.c.p k.proc i.p∧cH k i.p i.n) ∨
 (i.op=17∧mQ k.c.p k.proc i.n∧(i.l.l.length:Int)=(nI k i.n).params∧k_ k i.d (decide (0<(nI k i.n).lK.l.length)))∨(i.op=18∧(i.a = -1∨(a∧0<(nI k k.proc).lK.l.length))) ∨
 (i.op=19∧oc k.c.p i.n i.p=true∧(i.m = -1∨(mQ k.c.p k.proc i.m∧(nI k i.m).params=0∧(nI k i.m).lK.l.length=0)))∨((i.op=20∨i.op=21)∧oc k.c.p i.n i.p=true)
end Go.Ago
namespace Go.Ago
open Go.Proofs List Nat Tryz
attribute [local irreducible] bN bM aZ bK b_ wr bp bL comp DC DP DW DV
attribute [local irreducible] dJ ct aL cH dP dI ec dX nN nH l5 pS nq oT l9 oc lC qX oO mD nO n_ mQ kq k_ lR fQ mn
theorem Qq (k:Kc)(v:0≤fj k∧fj k≤4000)(i:Ins)(a:Bool):af 108 [k.av,i.av,.bool a] (ca fun x=>x=true↔kv k i (a=true)):=by
 refine zw func108 ?_;have E:=k.c.p.procs.h;have y:=k.c.b.h;have w:=k.c.p.files.h;have A:=k.c.p.dv.h;have r:=k.c.p.conds.h;have s:=k.fK;have t:=k.hlen;have u:=i.l.h;have o:=k.hp k.proc.toNat aa aa;have f:=uR (k:=k) (x:=k.proc) aa;refine zk ?_
 repeat' ((first|(refine Rq.mk (by(first|rfl|((try simp only[rz]);(have:=rq d;omega)))) ?_)|(refine zb ?_ ?_<;>(intro h))|(refine ay.mk _ (cU (by first|omega|(have:=rq d;omega))) ?_)|(refine DC.pure rfl (N3 k _) ?_;rintro _ ⟨C,B,rfl,e⟩)|(refine DC.pure rfl (Hr k _ _ (by first|omega|(have:=Ez (e.1 bA);omega))) ?_;rintro _ (⟨rfl,g⟩|⟨rfl,g⟩))|(refine DC.pure rfl (DP.dec (Ks k _)) ?_;rintro _ (⟨rfl,d⟩|⟨rfl,d⟩))|(refine zh rfl (DP.dec (Ks k _)) ?_;rintro _ (⟨rfl,d⟩|⟨rfl,d⟩))|(refine zh rfl (WB k v _ _) ?_;rintro _ ⟨D,rfl,z⟩)|(refine DC.pure rfl (OF k.c.p _ _) ?_;rintro _ rfl))<;>refine zk ?_)
 all_goals first|(have q:=uR (k:=k) (x:=i.n) (by have:=rq d;omega);refine⟨_,rfl,?_⟩;unfold kv;grind)|(have q:=uR (k:=k) (x:=i.m) (by have:=rq d;omega);refine⟨_,rfl,?_⟩;unfold kv;grind)|(refine⟨_,rfl,?_⟩;unfold kv;grind)
end Go.Ago
end
section
namespace Go.Ago
open Go.Proofs List Nat Tryz
def lY (k:Kc)(i:Ins)(d a b:Prop):Prop:=
 (i.op=22∧d∧(8≤i.n∧i.n≤65536)∧i.n.tmod 8=0∧kq k i.a i.m) ∨
 (i.op=23∧a∧kq k i.b i.m) ∨
 ((i.op=24∨i.op=25)∧0≤i.n∧i.n≤(k.c.p.dv.l.length:Int) - 1) ∨
 (i.op=26∧d∧0≤i.n∧i.n≤(k.c.p.dv.l.length:Int) - 1) ∨
 (i.op=27∧l9 k.c.p i.p ⟨[2],ag⟩=true∧(0≤i.n∧i.n≤99)∧(lC i.f).1=true∧(i.l.l.length:Int)=i.y.l.length∧(i.l.l.length:Int)≤16∧qX i.y=false∧((lC i.f).2=true∨i.f.l.length=0∨i.l.l.length=0)) ∨
 (i.op=28∧d∧l9 k.c.p i.p ⟨[1],ag⟩=true∧(0≤i.n∧i.n≤15)∧(lC i.f).1=true∧((lC i.f).2=true∨i.f.l.length=0)∧nH i.t=true∧cH k k.proc i.m) ∨
 (i.op=29∧d∧l9 k.c.p i.p ⟨[3],ag⟩=true∧((i.a = -1∧(eV false (i.u.kind == 0 && (i.u.p == 0 && (i.u.q == 0 && (i.u.fw == false && (i.u.ep == [] && true)))))=true))∨(a∧l5 i.u=true))∧l5 i.t=true∧cH k k.proc i.m) ∨
 (i.op=30∧(18≤i.n∧i.n≤20)∧l9 k.c.p i.p ⟨[3],ag⟩=true∧a∧l5 i.u=true∧((i.n=20∧i.b = -1∧(eV false (i.w.kind == 0 && (i.w.p == 0 && (i.w.q == 0 && (i.w.fw == false && (i.w.ep == [] && true)))))=true))∨(i.n≠20∧b∧l5 i.w=true))) ∨
 (i.op=31∧a∧b∧(16≤i.n∧i.n≤4096)∧(16≤i.m∧i.m≤4096)) ∨
 ((i.op=32∨i.op=33)∧d∧a∧b∧(16≤i.n∧i.n≤4096)) ∨
 ((i.op=34∨i.op=35∨i.op=36)∧d)∨i.op=37
end Go.Ago
namespace Go.Ago
open Go.Proofs List Nat Tryz
attribute [local irreducible] bN bM aZ bK b_ wr bp bL comp DC DP DW DV
attribute [local irreducible] dJ ct aL cH dP dI ec dX nN nH l5 pS nq oT l9 oc lC qX oO mD nO n_ mQ kq k_ lR fQ mn
theorem Zf (k:Kc)(m:0≤fj k∧fj k≤4000)(i:Ins)(d a b:Bool):af 107 [k.av,i.av,.bool d,.bool a,.bool b] (ca fun x=>x=true↔lY k i (d=true) (a=true) (b=true)):=by
 refine zw func107 ?_;have u:=k.c.p.procs.h;have t:=k.c.b.h;have n:=k.c.p.files.h;have o:=k.c.p.dv.h;have q:=k.c.p.conds.h;have r:=k.fK;have s:=k.hlen;refine zg ?_
 repeat' ((first|(refine zp ?_ ?_<;>intro h)|(refine DC.pure rfl (DP.dec (N2 k m _ _)) ?_;rintro _ (⟨rfl,g⟩|⟨rfl,g⟩))|(refine DC.pure rfl (qj _ _ _) ?_;rintro _ (⟨rfl,e⟩|⟨rfl,e⟩))|(refine DC.pure rfl (RP i.f) ?_;rintro _ rfl)|(refine DC.flat rfl (Bi k.c.p _ ⟨[2],by(show 1<_;decide)⟩) ?_;rintro _ rfl<;>refine⟨rfl,?_⟩)|(refine DC.flat rfl (Bi k.c.p _ ⟨[1],by(show 1<_;decide)⟩) ?_;rintro _ rfl<;>refine⟨rfl,?_⟩)|(refine DC.flat rfl (Bi k.c.p _ ⟨[3],by(show 1<_;decide)⟩) ?_;rintro _ rfl<;>refine⟨rfl,?_⟩)|(refine DC.pure rfl (Zv i.y) ?_;rintro _ rfl)|(refine DC.pure rfl (Jn _) ?_;rintro _ rfl)|(refine DC.pure rfl (PH _) ?_;rintro _ rfl)|(refine DC.pure rfl (Hr k _ _ aa) ?_;rintro _ (⟨rfl,j⟩|⟨rfl,j⟩)))<;>refine zg ?_)
 all_goals (refine⟨_,rfl,?_⟩;(try simp only[length_map] at *);(try rw[aF aa aa] at e);unfold lY;first|(grind;done)|(simp_all;done)|(simp_all;omega))
end Go.Ago
end
namespace Go.Ago
open Go.Proofs List Nat Tryz
attribute [local irreducible] bN bM aZ bK b_ wr bp bL comp DC DP DW DV
attribute [local irreducible] dJ ct aL cH dP dI ec dX
def gM (i:Ins):List (UInt8×Bool):=[(68,aZ i.d (-1)),(65,aZ i.a (-1)),(66,aZ i.b (-1)),(76,aZ ((i.l.l.map fun n=>[i64 n]).length:Int) 0),(84,(eV false (i.t.kind == 0 && (i.t.p == 0 && (i.t.q == 0 && (i.t.fw == false && (i.t.ep == [] && true))))))),(85,(eV false (i.u.kind == 0 && (i.u.p == 0 && (i.u.q == 0 && (i.u.fw == false && (i.u.ep == [] && true))))))),(87,(eV false (i.w.kind == 0 && (i.w.p == 0 && (i.w.q == 0 && (i.w.fw == false && (i.w.ep == [] && true))))))),(78,aZ i.n 0),(77,aZ i.m 0),(80,aZ i.p 0),(86,eV false (i.v.n == 0 && (i.v.s == [] && true))),(70,aZ ((i.f.l.map Fm.cells).length:Int) 0),(89,aZ ((i.y.l.map Ty.cells).length:Int) 0),(83,!i.size),(82,!i.range)]
abbrev GO (x:UInt8×Bool):List AV:=[.str [x.1],.bool x.2]
theorem GP {i:Ins}:(gM i).length=15:=rfl
def iu (i:Ins):Prop:=(1≤i.op∧i.op≤38)∧∀x∈gM i,x.2=true∨hasB i.op x.1=true
def re (i:Ins)(n:Nat):Prop:=(1≤i.op∧i.op≤38)∧∀x∈(gM i).take n,x.2=true∨hasB i.op x.1=true
theorem re.step {i:Ins}{n:Nat}(h:re i n)(hn:n<(gM i).length)(hx:(gM i)[n].2=true∨hasB i.op (gM i)[n].1=true):re i (n+1):=⟨h.1,fun x hm=>by
 rw[take_succ_eq_append_getElem hn] at hm;rcases mem_append.1 hm with hm|hm
 . exact h.2 x hm
 . rw[mem_singleton.1 hm];exact hx⟩
theorem re.all {i:Ins}{n:Nat}(h:re i n)(hn:15≤n):iu i:=⟨h.1,fun x hm=>h.2 x (by rw[take_of_length_le (by rw[GP];exact hn)];exact hm)⟩
theorem iu.not {i:Ins}{n:Nat}(hn:n<(gM i).length)(h1:(gM i)[n].2=false)(h2:hasB i.op (gM i)[n].1=false):¬iu i:=fun h=>by
 rcases h.2 _ (getElem_mem hn) with h3|h3
 . rw[h1] at h3;cases h3
 . rw[h2] at h3;cases h3
theorem RO {i:Ins}{n:Nat}(hn:n<(gM i).length):((gM i).map GO)[0+((n:Int)).toNat]? = some (GO (gM i)[n]):=by simp[hn]
theorem Oi (i:Ins):af 55 [i.av] (ca fun x=>x=true↔iu i):=by
 refine zw func55 ?_;have hl:=i.l.h
 conv=>whnf
 repeat' ((first|refine Rq.mk (b:=gK _ _ _ _ _ _) aG ?_|refine Br.split (fun h=>?_) (fun h=>?_)<;>(try simp only[bz] at h)<;>try (exfalso;omega)|refine And.intro (a:=iV _=true) aG (kY.l ?_))<;>conv=>whnf)
 all_goals first|(refine⟨_,rfl,fun h2=>(by cases h2),fun h2=>?_⟩;have:=h2.1;omega)|skip
 refine DW.aO aC aD [1,2,81,82] [] 0 (fun n:{n:Nat // re i n}=>[(83,i64 n.1)]) (fun _=>[]) [] (fun n=>16 - n.1) (⟨0,⟨aa,aa⟩,fun x hx=>(by cases hx)⟩) ?_
 refine zl fun n=>?_
 rcases n with⟨n,hn⟩
 have hf15:=@GP i;refine zk ?_
 repeat' ((first|(refine zp ?_ ?_<;>first|exact⟨⟩|intro h)|(refine DC.pure rfl (BP _ _) ?_;rintro _ rfl)|refine cb (RO (i:=i) (n:=n) aa) ?_)<;>refine zk ?_)
 all_goals first|(refine⟨_,rfl,fun h2=>(by cases h2),fun h2=>?_⟩;exact absurd h2 (iu.not (n:=n) aa bA bA))|(refine⟨_,rfl,fun _=>hn.all aa,fun _=>rfl⟩)|(refine⟨⟨n+1,hn.step aa (by first|exact .inl bA|exact .inr bA)⟩,(by(conv=>whnf);(exact q0)),rfl,dC⟩)
end Go.Ago
section
namespace Go.Ago
open Go.Proofs List Nat Tryz
def rm (k:Kc)(i:Ins):Prop:=
 (i.op=1∧0≤i.n∧i.n≤9999) ∨
 (i.op=2∧aL k i.d∧nN i.t=true∧pS i.t i.v=0∧(i.t.kind≠6∨i.v.n=0)) ∨
 ((i.op=3∨i.op=38)∧aL k i.d∧aL k i.a) ∨
 (i.op=4∧aL k i.d∧lR k i) ∨
 (i.op=5∧aL k i.a) ∨
 (i.op=6∧aL k i.d∧aL k i.a∧(0≤i.n∧i.n≤65536)) ∨
 (i.op=7∧aL k i.d∧aL k i.a∧aL k i.b∧(-32768≤i.n∧i.n≤i.m)∧i.m≤32767∧(1≤i.p∧i.p≤65536)) ∨
 (i.op=8∧aL k i.d∧aL k i.a∧nN i.t=true) ∨
 (i.op=9∧aL k i.a∧aL k i.b∧nN i.t=true) ∨
 (i.op=10∧aL k i.d∧aL k i.a∧(((i.n=5∨i.n=11)∧i.b = -1∧(eV false (i.w.kind == 0 && (i.w.p == 0 && (i.w.q == 0 && (i.w.fw == false && (i.w.ep == [] && true)))))=true)∧nq i.t i.n ⟨[i.u],by(show 1<_;decide)⟩=true)∨(¬(i.n=5∨i.n=11)∧aL k i.b∧(5≤i.n∧i.n≤13)∧nq i.t i.n ⟨[i.u,i.w],by(show 2<_;decide)⟩=true))) ∨
 (i.op=11∧aL k i.d∧aL k i.a∧nH i.t=true∧nH i.u=true) ∨
 (i.op=12∧aL k i.d∧((14≤i.n∧i.n≤17)∨(19≤i.n∧i.n≤24))∧(i.l.l.length:Int)=i.y.l.length∧nq i.t i.n i.y=true) ∨
 (i.op=13∧aL k i.d∧aL k i.a∧aL k i.b∧(0≤i.n∧i.n≤5)∧(oT 18 i.n ⟨[i.u,i.w],by(show 2<_;decide)⟩).2=0) ∨
 ((i.op<1∨14≤i.op)∧22≤i.op∧i.op≠38∧lY k i (aL k i.d) (aL k i.a) (aL k i.b)) ∨
 ((i.op<1∨(14≤i.op∧i.op<22))∧kv k i (aL k i.a))
def jB (k:Kc)(i:Ins):Prop:=(∀r∈i.l.l,aL k r)∧rm k i
theorem bt {b:Bool}{P:Prop}(hb:b=true↔P)(h:b=true):true=true↔P:=by rw[<-hb,h]
theorem bf {b:Bool}{P:Prop}(hb:b=true↔P)(h:b=false):false=true↔P:=by rw[<-hb,h]
theorem Zg (k:Kc)(hr:0≤fj k∧fj k≤4000)(i:Ins)(d a b:Bool){D A B:Prop}(hd:d=true↔D)(ha:a=true↔A)(hb:b=true↔B):af 107 [k.av,i.av,.bool d,.bool a,.bool b] (ca fun x=>x=true↔lY k i D A B):=by
 have:=Zf k hr i d a b;rw[propext hd,propext ha,propext hb] at this;exact this
theorem Qr (k:Kc)(hr:0≤fj k∧fj k≤4000)(i:Ins)(a:Bool){A:Prop}(ha:a=true↔A):af 108 [k.av,i.av,.bool a] (ca fun x=>x=true↔kv k i A):=by
 have:=Qq k hr i a;rw[propext ha] at this;exact this
theorem Xs {k:Kc}{i:Ins}{b:Bool}(hal:∀r∈i.l.l,aL k r)(h:b=true↔rm k i):∃c,AE.ret (.bool b) = .ret (.bool c)∧(c=true↔jB k i):=⟨b,rfl,h.trans ⟨fun h=>⟨hal,h⟩,(·.2)⟩⟩
theorem Xt {k:Kc}{i:Ins}{n:Nat}(hn:n<i.l.l.length)(h:¬aL k i.l.l[n]):∃c,AE.ret (.bool false) = .ret (.bool c)∧(c=true↔jB k i):=⟨false,rfl,fun h=>(by cases h),fun h2=>absurd (h2.1 _ (getElem_mem hn)) h⟩
end Go.Ago
namespace Go.Ago
open Go.Proofs List Nat Tryz
attribute [local irreducible] bN bM aZ bK b_ wr bp bL comp DC DP DW DV
attribute [local irreducible] dJ ct aL cH dP dI ec dX nN nH l5 pS nq oT l9 oc lC qX oO mD nO n_ mQ kq k_ lR fQ mn lY kv
theorem Xu (k:Kc)(hr:0≤fj k∧fj k≤4000)(i:Ins):af 56 [k.av,i.av] (ca fun x=>x=true↔jB k i):=by
 refine zw func56 ?_;have hl:=k.c.p.procs.h;have hl2:=k.c.b.h;have hl3:=k.c.p.files.h;have hl4:=k.c.p.dv.h;have hl5:=k.c.p.conds.h;have hpr:=k.fK;have hle:=k.hlen;have hil:=i.l.h;have hir:=i.y.h
 conv=>whnf
 repeat' ((first|(refine DV.pure rfl (yi k hr i.d) ?_;rintro _ ⟨b1,rfl,hb1⟩<;>refine⟨_,rfl,?_⟩)|(refine DV.pure rfl (yi k hr i.a) ?_;rintro _ ⟨b2,rfl,hb2⟩<;>refine⟨_,rfl,?_⟩)|(refine DV.pure rfl (yi k hr i.b) ?_;rintro _ ⟨b3,rfl,hb3⟩<;>refine⟨_,rfl,?_⟩)|refine And.intro (a:=iV _=true) aG (kY.l ?_))<;>conv=>whnf)
 refine DW.aO aC aD [2,3,4,5,6,7,25,26] [] 0 (fun n:{n:Nat // LI k i.l.l n}=>[(27,i64 n.1)]) (fun _=>[]) [] (fun n=>i.l.l.length+1 - n.1) (⟨0,LI.nil⟩) ?_
 refine zl fun n=>?_
 refine zg ?_
 repeat' ((first|(refine zp ?_ ?_<;>first|exact⟨⟩|intro h)|(refine DC.pure rfl (C1 k hr _) ?_;rintro _ (⟨rfl,hx⟩|⟨rfl,hx⟩))|(refine DC.pure rfl (qj _ _ _) ?_;rintro _ (⟨rfl,hb4⟩|⟨rfl,hb4⟩))|(refine DC.pure rfl (XW _) ?_;rintro _ rfl)|(refine DC.pure rfl (Qw _ i.v) ?_;rintro _ rfl)|(refine DC.pure rfl (Oj k i) ?_;rintro _ ⟨b6,rfl,hb6⟩)|(refine DC.flat rfl (BZ _ _ ⟨[i.u],by(show 1<_;decide)⟩) ?_;rintro _ rfl<;>refine⟨rfl,?_⟩)|(refine DC.flat rfl (BZ _ _ ⟨[i.u,i.w],by(show 2<_;decide)⟩) ?_;rintro _ rfl<;>refine⟨rfl,?_⟩)|(refine DC.pure rfl (BZ _ _ i.y) ?_;rintro _ rfl)|(refine DC.pure rfl (Jn _) ?_;rintro _ rfl)|(refine DC.flat rfl (Xf _ _ ⟨[i.u,i.w],by(show 2<_;decide)⟩) ?_;rintro _ rfl<;>refine⟨rfl,?_⟩)|(refine DC.pure rfl (Zg k hr i _ _ _ (D:=aL k i.d) (A:=aL k i.a) (B:=aL k i.b) (by first|exact hb1|exact bt hb1 bA|exact bf hb1 bA) (by first|exact hb2|exact bt hb2 bA|exact bf hb2 bA) (by first|exact hb3|exact bt hb3 bA|exact bf hb3 bA)) ?_;rintro _ ⟨b10,rfl,hb10⟩)|(refine DC.pure rfl (Qr k hr i _ (A:=aL k i.a) (by first|exact hb2|exact bt hb2 bA|exact bf hb2 bA)) ?_;rintro _ ⟨b11,rfl,hb11⟩))<;>refine zg ?_)
 all_goals first|exact zi ⟨n.1+1,LI.step n.2 aa hx⟩|exact Xt (n:=n.1) aa hx|(have hal:=LI.all n.2 aa;refine Xs hal ?_;unfold rm;first|(grind;done)|(simp_all;done)|(simp_all;omega))
end Go.Ago
end
section
namespace Go.Ago
open Go.Proofs List Nat Tryz
def jd (l:List Bd):Nat->Nat
 | 0=>0
 | m+1=>jd l m+(if h:m<l.length then l[m].ins.l.length else 0)
theorem JD {l:List Bd}{m:Nat}(h:m<l.length):jd l (m+1)=jd l m+l[m].ins.l.length:=by show jd l m+_=_;grind
structure pC (c:Cd):Prop extends OutOK c where
 pb:oO c.p.procs=false
 sum:jd c.b.l c.b.l.length≤20000
def tP (l:List Bd)(n:Nat):Prop:=∀(j:Nat) (h:j<l.length),j<n->0≤l[j].aj∧l[j].aj≤4000
theorem tP.step {l:List Bd}{n:Nat}(h:tP l n)(b:n<l.length)(hi:0≤l[n].aj∧l[n].aj≤4000):tP l (n+1):=fun j c d=>by
 rcases Nat.lt_or_ge j n with a|a
 . exact h j _ a
 grind
def cE (c:Cd):Prop:=pC c∧∃h:OutOK c,∀(q:Nat) (a:q<c.b.l.length),∀i∈c.b.l[q].ins.l,iu i∧jB (fu c h q a) i
def tD (c:Cd)(h:OutOK c)(n:Nat):Prop:=∀(q:Nat) (a:q<c.b.l.length),q<n->∀i∈c.b.l[q].ins.l,iu i∧jB (fu c h q a) i
def tA (c:Cd)(h:OutOK c)(q:Nat)(a:q<c.b.l.length)(n:Nat):Prop:=∀i∈c.b.l[q].ins.l.take n,iu i∧jB (fu c h q a) i
theorem tA.step {c:Cd}{h:OutOK c}{q:Nat}{d:q<c.b.l.length}{n:Nat}(e:tA c h q d n)(f:n<c.b.l[q].ins.l.length)(hi:iu c.b.l[q].ins.l[n]∧jB (fu c h q d) c.b.l[q].ins.l[n]):tA c h q d (n+1):=fun i a=>by
 rw[take_succ_eq_append_getElem f] at *;rcases mem_append.1 a with a|a
 . exact e i a
 grind
theorem tD.step {c:Cd}{h:OutOK c}{m:Nat}(f:tD c h m)(o:m<c.b.l.length){n:Nat}(p:tA c h m o n)(g:c.b.l[m].ins.l.length≤n):tD c h (m+1):=fun q j k i a=>by
 rcases Nat.lt_or_ge q m with e|e
 . exact f q _ e i a
 have:q=m:=aa;subst this;exact p i (by rw[take_of_length_le g];exact a)
theorem cE.of {c:Cd}{h:OutOK c}(d:pC c){m:Nat}(e:tD c h m)(f:c.b.l.length≤m):cE c:=⟨d,h,fun q g i a=>e q _ aa i a⟩
theorem cE.no {c:Cd}{h:OutOK c}{q n:Nat}(d:q<c.b.l.length)(e:n<c.b.l[q].ins.l.length)(hi:¬(iu c.b.l[q].ins.l[n]∧jB (fu c h q d) c.b.l[q].ins.l[n])):¬cE c:=fun ⟨_,f,a⟩=>hi (a q _ _ (ag))
theorem Jf {c:Cd}{x:Nat}{b:Bool}(d:dJ c.p=0)(e:c.b.l.length=c.p.procs.l.length)(f:oO c.p.procs=false)(g:tP c.b.l x)(i:x≤c.b.l.length)(h0:c.b.l.length≤x)(j:b=decide (jd c.b.l x≤20000)):∃y,AE.ret (.bool b) = .ret (.bool y)∧(y=true↔pC c):=by
 obtain rfl:x=c.b.l.length:=Nat.le_antisymm i h0;subst j;exact⟨_,rfl,fun h=>⟨⟨d,e,fun p a=>g p _ a⟩,f,of_decide_eq_true h⟩,fun h=>decide_eq_true h.sum⟩
theorem Jg {c:Cd}{b:Bool}(h:b=true↔pC c):∃x,AE.ret (.bool b) = .ret (.bool x)∧(x=true↔pC c):=⟨b,rfl,h⟩
end Go.Ago
namespace Go.Ago
open Go.Proofs List Nat Tryz
attribute [local irreducible] bN bM aZ bK b_ wr bp bL comp DC DP DW DV
attribute [local irreducible] dJ ct aL cH dP dI ec dX nN nH l5 pS nq oT l9 oc lC qX oO mD nO n_ mQ kq k_ lR fQ mn lY kv iu jB rm
theorem Ws (c:Cd)(d:∀m,jd c.b.l m≤100000):af 54 [c.av] (ca fun x=>x=true↔pC c):=by
 refine zw func54 ?_;have q:=c.p.procs.h;have g:=c.b.h;refine zg ?_
 repeat' ((first|(refine zp ?_ ?_<;>intro h)|(refine DC.pure rfl (AD c.p) ?_;rintro _ rfl)|(refine DC.pure rfl (Wz c.p.procs) ?_;rintro _ rfl))<;>refine zg ?_)
 all_goals first|(refine Jg ⟨fun a=>(by cases a),fun a=>?_⟩;exfalso;first|exact absurd a.ck bA|(have:=a.len;omega)|(have:=a.pb;simp_all;done))|skip
 refine DW.aO aC aD [2,27,28] [] 0 (fun x:{n:Nat // tP c.b.l n∧n≤c.b.l.length}=>[(29,i64 x.1),(3,i64 (jd c.b.l x.1))]) (fun _=>[]) [] (fun x=>c.b.l.length+1 - x.1) (⟨0,(fun j h a=>absurd a (not_lt_zero _)),zero_le _⟩) ?_
 refine zl fun x=>?_
 have f:=d x.1;have k:=x.2.2;refine zg ?_
 repeat' ((refine zp ?_ ?_<;>intro h)<;>refine zg ?_)
 all_goals first|(refine Jf (x:=x.1) ?_ ?_ ?_ x.2.1 x.2.2 ?_ (decide_eq_true ?_).symm;assumption;omega;assumption;omega;omega)|(refine Jf (x:=x.1) ?_ ?_ ?_ x.2.1 x.2.2 ?_ (decide_eq_false ?_).symm;assumption;omega;assumption;omega;omega)|(have o:=JD (l:=c.b.l) (m:=x.1) aa;have i:=d (x.1+1);refine⟨⟨x.1+1,x.2.1.step aa aa,aa⟩,(by(conv=>whnf);(repeat' first|exact True.intro|apply And.intro|rfl|exact congrArg (AV.int .i64) (by(try dsimp only);(try simp only[length_map]);rw[aF aa aa];omega))),rfl,dC⟩)|(refine Jg ⟨fun a=>(by cases a),fun a=>?_⟩;exfalso;(have:=a.aj x.1 aa;omega))
theorem Ft (c:Cd)(v:∀m,jd c.b.l m≤100000):af 14 [c.av] (eX fun e=>e=0↔cE c):=by
 refine zw func14 ?_;have A:=c.p.procs.h;have t:=c.b.h;refine zg ?_
 repeat' ((first|(refine zp ?_ ?_<;>intro h)|(refine DC.pure rfl (Ws c v) ?_;rintro _ ⟨y,rfl,f⟩))<;>refine zg ?_)
 all_goals first|(refine⟨_,rfl,fun h=>(by cases h),fun h=>?_⟩;exfalso;have:=f.2 h.1;simp_all;done)|skip
 have g:pC c:=f.1 bA;have d:OutOK c:=g.toOutOK;refine DW.aO aC aD [1,2,11,12] [] 0 (fun m:{n:Nat // tD c d n}=>[(13,i64 m.1)]) (fun _=>[]) [] (fun m=>c.b.l.length+1 - m.1) (⟨0,fun q w h=>absurd h (not_lt_zero _)⟩) ?_
 refine zl fun m=>?_
 refine zg ?_
 repeat' ((refine zp ?_ ?_<;>intro h)<;>refine zg ?_)
 all_goals skip
 . have a : m.1 < c.b.l.length := aa
   have u:=(c.b.l[m.1]).ins.h;refine DW.aO aC aD [1,2,3,4,11,12,13,14,15,16,17,18,19,20] [] 0 (fun n:{n:Nat // tA c d m.1 a n}=>[(21,i64 n.1)]) (fun _=>[]) [] (fun n=>(c.b.l[m.1]'(a)).ins.l.length+1 - n.1) (⟨0,fun i s=>(by cases s)⟩) ?_
   refine zl fun n=>?_
   refine zg ?_
   repeat' ((first|(refine zp ?_ ?_<;>intro h)|(refine DC.pure rfl (Oi (c.b.l[m.1].ins.l[n.1]'aa)) ?_;rintro _ ⟨x,rfl,j⟩)|(refine DC.pure rfl (Xu (fu c d m.1 a) (T_ d m.1 a) (c.b.l[m.1].ins.l[n.1]'aa)) ?_;rintro _ ⟨z,rfl,k⟩))<;>refine zg ?_)
   all_goals first|(refine⟨_,rfl,fun h=>(by cases h),fun h=>?_⟩;refine absurd h (cE.no (h:=d) (q:=m.1) (n:=n.1) a aa fun r=>?_);(have:=j.2 r.1;simp_all;done))|(refine⟨⟨n.1+1,n.2.step aa ⟨j.1 bA,k.1 bA⟩⟩,?_,rfl,?_⟩<;>first|((conv=>whnf);(exact q0);done)|((try simp only[length_map] at *)<;>omega))|exact zi ⟨m.1+1,m.2.step a n.2 aa⟩
 . exact⟨_,rfl,fun _=>cE.of g m.2 aa,fun _=>rfl⟩
end Go.Ago
end
namespace Go.Ago
open Go.Proofs List Nat Tryz
attribute [local irreducible] aL cH ct dJ nN nH l5 pS nq oT l9 oc lC qX oO
theorem kq.ok {k:Kc}{r m:Int}(h:kq k r m):r = -1∨aL k r:=h.elim (fun h => .inl h.1) fun h => .inr h.1
theorem k_.ok {k:Kc}{r:Int}{x:Bool}(h:k_ k r x):r = -1∨aL k r:=h.elim (fun h => .inr h.2) fun h => .inl h.2
theorem kv.ok {k:Kc}{i:Ins}(h:kv k i (aL k i.a)):dP k i:=by
 unfold kv at h;unfold dP;rcases h with⟨c,h⟩|⟨c,h⟩|⟨c,h⟩|⟨c,h⟩|⟨c,h⟩|⟨c,h⟩|⟨c,h⟩
 . exact⟨fun _=>h,fun e=>aa,fun e=>aa,fun e=>aa,fun e=>aa⟩
 . exact⟨fun e=>aa,fun _=>h,fun e=>aa,fun e=>aa,fun e=>aa⟩
 . exact⟨fun e=>aa,fun e=>aa,fun _=>⟨Ez h.1,h.2⟩,fun e=>aa,fun e=>aa⟩
 . exact⟨fun e=>aa,fun e=>aa,fun e=>aa,fun _=>h.2.2.ok,fun e=>aa⟩
 . exact⟨fun e=>aa,fun e=>aa,fun e=>aa,fun e=>aa,fun _=>h.imp id (·.1)⟩
 . exact⟨fun e=>aa,fun e=>aa,fun e=>aa,fun e=>aa,fun e=>aa⟩
 . exact⟨fun e=>aa,fun e=>aa,fun e=>aa,fun e=>aa,fun e=>aa⟩
theorem lY.ok {k:Kc}{i:Ins}(h:lY k i (aL k i.d) (aL k i.a) (aL k i.b)):dI k i:=by
 unfold lY at h;unfold dI;rcases h with⟨c,h⟩|⟨c,h⟩|⟨c,h⟩|⟨c,h⟩|⟨c,h⟩|⟨c,h⟩|⟨c,h⟩|⟨c,h⟩|⟨c,h⟩|⟨c,h⟩|⟨c,h⟩|c
 all_goals (repeat' apply And.intro)<;>intro e<;>first|(exfalso;omega)|skip
 all_goals first
  | exact⟨h.1,h.2.2.2.ok⟩
  | exact⟨h.1,h.2.ok⟩
  | exact⟨h.1,h.2.2.2.2.2.2⟩
  | exact⟨h.1,h.2.2.1.elim (fun h => .inl h.1) (fun h => .inr h.1),h.2.2.2.2⟩
  | exact⟨h.2.2.1,h.2.2.2.2.elim (fun h => .inl h.2.1) (fun h => .inr h.2.1)⟩
  | exact⟨h.1,h.2.1⟩
  | exact⟨h.1,h.2.1,h.2.2.1⟩
  | exact h.1
  | exact h
theorem jB.ok {k:Kc}{i:Ins}(h:jB k i):dX k i:=by
 obtain⟨a,h⟩:=h;unfold rm at h;unfold dX;refine⟨a,?_⟩;rcases h with⟨c,h⟩|⟨c,h⟩|⟨c,h⟩|⟨c,h⟩|⟨c,h⟩|⟨c,h⟩|⟨c,h⟩|⟨c,h⟩|⟨c,h⟩|⟨c,h⟩|⟨c,h⟩|⟨c,h⟩|⟨c,h⟩|⟨c,d,f,h⟩|⟨c,h⟩
 all_goals (repeat' apply And.intro)<;>intro e<;>first|(exfalso;omega)|(intro b;exfalso;omega)|skip
 all_goals first
  | exact⟨h.1,h.2.1,h.2.2.elim (fun h => .inl h.2.1) (fun h => .inr h.2.1)⟩
  | exact⟨h.1,h.2.1,h.2.2.1⟩
  | exact⟨h.1,h.2.1⟩
  | exact h.1
  | exact h
  | exact fun _=>h.ok
theorem wL {i:Ins}(h:iu i){x:UInt8×Bool}(a:x∈gM i)(b:hasB i.op x.1=false):x.2=true:=(h.2 x a).resolve_right (by grind)
theorem iu.ok {i:Ins}(h:iu i):ec i:=by
 refine⟨h.1,fun e=>?_,fun e=>?_,fun e=>?_,fun e=>?_⟩
 . have := wL h (x := (68, aZ i.d (-1))) (by simp [gM]) e
   exact(mZ ▸ this:_)
 . have := wL h (x := (65, aZ i.a (-1))) (by simp [gM]) e
   exact(mZ ▸ this:_)
 . have := wL h (x := (66, aZ i.b (-1))) (by simp [gM]) e
   exact(mZ ▸ this:_)
 . have := wL h (x := (76, aZ ((i.l.l.map fun n => [i64 n]).length : Int) 0)) (by simp [gM]) e
   dsimp only at this;rw[mZ] at this;exact eq_nil_of_length_eq_zero (by simpa using this)
theorem cE.ok {c:Cd}(h:cE c):rh c:=by
 obtain⟨_,d,b⟩:=h;exact⟨d,fun q e i a=>⟨(b q _ i a).1.ok,(b q _ i a).2.ok⟩⟩
end Go.Ago
namespace Go.Ago
open Go.Proofs List Nat Tryz
open Classical in
noncomputable def cB (c:Cd):Int:=if h:∀m,jd c.b.l m≤100000 then Classical.choose (DP.nz (Ft c h)) else 1
theorem wu (c:Cd)(h:∀m,jd c.b.l m≤100000):cB c=0↔cE c:=by
 unfold cB
 grind
theorem PY (c:Cd)(h0:cB c=0):rh c:=by
 by_cases h:∀m,jd c.b.l m≤100000
 . exact((wu c h).1 h0).ok
 unfold cB at *
 grind
theorem PJ (c:Cd)(h:∀m,jd c.b.l m≤100000):af 14 [c.av] (fun d=>d = .ret (i64 (cB c))):=by
 have:=(Classical.choose_spec (DP.nz (Ft c h))).2;unfold cB
 grind
def bV (bs:List Bd):Nat:=(bs.map fun b=>b.ins.l.length).sum
theorem uS {bs:List Bd}:∀{m:Nat},jd bs m≤bV bs
 | 0=>zero_le _
 | m + 1 => by
   have a:∀(l:List Bd) (m:Nat),jd l m≤((l.take m).map fun b=>b.ins.l.length).sum:=fun l m=>by
    induction m with
    | zero=>exact zero_le _
    | succ m e =>
      by_cases h:m<l.length
      . rw [JD h, take_succ_eq_append_getElem h, map_append, sum_append]
        grind
      . show jd l m + _ ≤ _
        grind
   refine Nat.le_trans (a bs (m+1)) ?_;unfold bV
   conv=>rhs;rw[<-take_append_drop (m+1) bs]
   grind
theorem pO (c:Cd)(h:bV c.b.l≤100000):af 14 [c.av] (fun a=>a = .ret (i64 (cB c))):=PJ c fun m=>Nat.le_trans uS h
end Go.Ago
namespace Go.Ago
open Go.Proofs List Nat Tryz
attribute [local irreducible] bN bM aZ bK b_ wr bp bL comp DC DP DW DV
attribute [local irreducible] dJ ct aL cH dP dI ec dX
abbrev cQ (i:Ins):Prop:=i.op≠14∧i.op≠16∧i.op≠18∧i.op≠37
abbrev jq (i:Ins):Prop:=i.op=2∨i.op=3∨i.op=6∨i.op=26∨i.op=32∨i.op=34∨i.op=35∨i.op=36∨(i.op=4∧i.n≠5)
def aH (i:Ins):Int:=if hasB i.op 68=true then i.d else -1
def bT (i:Ins):List Int:=if i.op=14∨i.op=15 then [i.n] else if i.op=28∨i.op=29 then [i.m] else []
theorem Rp (i:Ins):af 74 [i.av] (ca fun b=>b=true↔cQ i):=by
 exact zw func74 W
theorem wQ (i:Ins):af 74 [i.av] (kQ (cQ i)):=DP.dec (Rp i)
theorem W8 (i:Ins):af 120 [i.av] (ca fun b=>b=true↔jq i):=by
 exact zw func120 W
theorem W6 (i:Ins):af 120 [i.av] (kQ (jq i)):=DP.dec (W8 i)
theorem o0 (i:Ins):af 76 [i.av] (fun b=>b = .ret (i64 (aH i))):=by
 refine zw func76 ?_;refine zg ?_
 repeat' ((first|(refine zp ?_ ?_<;>intro h)|(refine DC.pure rfl (BP _ _) ?_;rintro _ rfl))<;>refine zg ?_)
 all_goals (simp only[aH, *];rfl)
theorem Zu (i:Ins):af 73 [i.av] (fun b=>∃l:List Int,b = .ret (bif l.isEmpty then .ah else .ak 1 (l.map fun n=>[i64 n]))∧l=bT i):=by
 refine zw func73 ?_;refine zg ?_
 repeat' ((refine zp ?_ ?_<;>intro h)<;>refine zg ?_)
 all_goals first|exact⟨[i.n],rfl,by simp[bT, *]⟩|exact⟨[i.m],rfl,by simp[bT, *]⟩|exact⟨[],rfl,by simp[bT, *]⟩
theorem sX (i:Ins):af 73 [i.av] (fun a=>a = .ret (aU (bT i))):=by
 refine(DP.norm (Zu i)).mono ?_;simp
structure Gr where
 ins:BL Ins
 aj:Int
 entries:BL Int
abbrev Gr.cells (g:Gr):List AV:=[np g.ins.l,i64 g.aj,aU g.entries.l]
abbrev Gr.av (g:Gr):AV := .agg g.cells
def mU (l:List Ins)(n:Nat):Prop:=∀(p:Nat) (h:p<l.length),p<n->bT l[p]=[]∧(cQ l[p]∨(l.length:Int) - 1≤p)
def g_ (g:Gr):Prop:=g.entries.l=[]∧mU g.ins.l g.ins.l.length
theorem mU.nil {l}:mU l 0:=fun _ _ h=>aa
theorem mU.step {l n}(h:mU l n)(b:n<l.length)(c:bT l[n]=[])(d:cQ l[n]∨(l.length:Int) - 1≤n):mU l (n+1):=fun j e f=>by
 rcases Nat.lt_or_ge j n with a|a
 . exact h j _ a
 grind
theorem g_.VR {g:Gr}{n:Nat}(b:n<g.ins.l.length)(h:bT g.ins.l[n]≠[]):¬g_ g:=fun a=>h (a.2 n _ b).1
theorem g_.VQ {g:Gr}{n:Nat}(a:n<g.ins.l.length)(h:¬cQ g.ins.l[n])(d:(n:Int)<g.ins.l.length - 1):¬g_ g:=fun c=>by
 rcases(c.2 n a a).2 with b|b<;>grind
theorem g_.VP {g:Gr}(h:0<(g.entries.l.length:Int)):¬g_ g:=fun a=>by rw[a.1] at h;grind
theorem len_nil {l:List Int}(h:¬0<(l.length:Int)):l=[]:=eq_nil_of_length_eq_zero aa
theorem UB {l:List Int}(h:0<(l.length:Int)):l≠[]:=fun e=>by grind
theorem Zj (g:Gr):af 34 [g.av] (ca fun b=>b=true↔g_ g):=by
 refine zw func34 ?_;have e:=g.ins.h;have d:=g.entries.h;refine zg ?_
 repeat' ((refine zp ?_ ?_<;>intro h)<;>refine zg ?_)
 all_goals first|exact⟨_,rfl,by simp only[false_iff,Bool.false_eq_true];exact g_.VP aa⟩|skip
 refine DW.aO aC aD [1,2,10,11] [] 0 (fun n:{n:Nat // mU g.ins.l n}=>[(12,i64 n.1)]) (fun _=>[]) [] (fun n=>g.ins.l.length+1 - n.1) (⟨0,mU.nil⟩) ?_
 refine zl fun n=>?_
 refine zg ?_
 repeat' ((first|(refine zp ?_ ?_<;>intro h)|(refine DC.pure rfl (sX (g.ins.l[n.1]'aa)) ?_;rintro _ rfl)|(refine DC.pure rfl (wQ (g.ins.l[n.1]'aa)) ?_;rintro _ (⟨rfl,a⟩|⟨rfl,a⟩)))<;>refine zg ?_)
 all_goals (try rw[aF aa aa] at h)
 all_goals first|exact⟨_,rfl,by simp only[false_iff,Bool.false_eq_true];first|exact g_.VR (n:=n.1) aa (UB aa)|exact g_.VQ (n:=n.1) aa a aa⟩|exact⟨_,rfl,by simp only[true_iff];exact⟨len_nil aa,fun p h _=>n.2 p h aa⟩⟩|exact zi ⟨n.1+1,mU.step n.2 aa (len_nil aa) (by first|exact Or.inl a|exact Or.inr aa)⟩
end Go.Ago
section
namespace Go.Ago
open Go.Proofs List Nat Tryz
attribute [local irreducible] bN bM aZ bK b_ wr bp bL comp DC DP DW DV
abbrev aA:=BitVec 64
abbrev jZ (b:aA):List AV:=[.int .u64 (b.toNat:Int)]
abbrev fW (ws:List aA):AV := .ak 1 (ws.map jZ)
def bB (ws:List aA)(r:Nat):Bool:=(ws.getD (r / 64) 0).getLsbD (r % 64)
theorem za (b:aA):IntKind.wrap .u64 (b.toNat:Int)=b.toNat:=by
 simp[IntKind.wrap,IntKind.bits,IntKind.signed];omega
theorem CJ (a b:aA):dS .or .u64 (a.toNat:Int) (b.toNat:Int)=((a ||| b).toNat:Int):=by
 simp only[dS,BitVec.ofInt_natCast,BitVec.ofNat_toNat];exact za _
theorem NS (a b:aA):dS .and .u64 (a.toNat:Int) (b.toNat:Int)=((a &&& b).toNat:Int):=by
 simp only[dS,BitVec.ofInt_natCast,BitVec.ofNat_toNat];exact za _
theorem NT (a b:aA):dS .andNot .u64 (a.toNat:Int) (b.toNat:Int)=((a &&& ~~~b).toNat:Int):=by
 simp only[dS,BitVec.ofInt_natCast,BitVec.ofNat_toNat];exact za _
theorem Yo (a:aA)(k:Nat)(b:k<64):b_ (a.toNat:Int) (k:Int) .u64=((a >>> k).toNat:Int):=by
 simp[b_,IntKind.bits,shiftRight_eq_div_pow]
 grind
theorem KQ (k:Nat)(b:k<64):wr .u64 (1 * 2 ^ min ((k:Int)).toNat 64)=((BitVec.twoPow 64 k).toNat:Int):=by
 have d:min ((k:Int)).toNat 64=k:=aa;have a:2 ^ k<2 ^ 64:=Nat.pow_lt_pow_right ab b;have c:2 ^ k=(2 ^ k:Nat):=ag;rw[BitVec.toNat_twoPow,mod_eq_of_lt a,Int.one_mul];have:=za (BitVec.twoPow _ k);rw[BitVec.toNat_twoPow,mod_eq_of_lt a] at *;unfold wr
 grind
theorem CU {r:Int}(h:0≤r)(a:r<4611686018427387904):wr .i64 (r.tdiv 64)=((r.toNat / 64:Nat):Int):=by
 obtain⟨n,rfl⟩:=Int.eq_ofNat_of_zero_le h;rw[aF (by grind) (by grind)];simp
theorem m64 {r:Int}(h:0≤r):r.tmod 64=((r.toNat % 64:Nat):Int):=by
 grind
theorem OE (w:aA)(k:Nat)(a:k<64):(dS .and .u64 (b_ (w.toNat:Int) (k:Int) .u64) 1=1)↔w.getLsbD k=true:=by
 rw[Yo w k a,show(1:Int)=(1#64).toNat from rfl,NS]
 have e:w >>> k &&& 1#64=if w.getLsbD k then 1#64 else 0#64:=by
  grind
 grind
theorem OD {ws:List aA}{r n m:Int}(c:n=((r.toNat / 64:Nat):Int))(b:m=((r.toNat % 64:Nat):Int))(a:n.toNat<ws.length) :
 (dS .and .u64 (b_ (ws[n.toNat].toNat:Int) m .u64) 1=1)↔bB ws r.toNat=true:=by
 subst b;rw[OE _ _ aa,bB]
 grind
theorem EX {ws:List aA}{r n m:Int}(b:n=((r.toNat / 64:Nat):Int))(c:m=((r.toNat % 64:Nat):Int))(a:n.toNat<ws.length) :
 (dS .and .u64 (Int.fdiv (ws[n.toNat].toNat:Int) (2 ^ min m.toNat IntKind.u64.bits)) 1=1)↔bB ws r.toNat=true:=by
 have:=OD b c a;unfold b_ at *
 grind
theorem Ox {ws:List aA}{r:Nat}{p:Prop}(h:p)(e:p↔bB ws r=true):AE.ret (.bool true)=AE.ret (.bool (bB ws r)):=by grind
theorem Ov {ws:List aA}{r:Nat}{p:Prop}(h:¬p)(e:p↔bB ws r=true):AE.ret (.bool false)=AE.ret (.bool (bB ws r)):=by
 grind
attribute [local irreducible] dS
theorem Hl (ws:BL aA)(r:Int)(h:0≤r∧r<64 * ws.l.length):af 85 [fW ws.l,i64 r] (fun d=>d = .ret (.bool (bB ws.l r.toNat))):=by
 refine zw func85 ?_;have e:=ws.h;have c:=CU (r:=r) aa aa;have b:=m64 (r:=r) aa;refine zg ?_
 repeat' ((refine zp ?_ ?_<;>intro h)<;>refine zg ?_)
 all_goals first|exact Ox h (EX c b aa)|exact Ov h (EX c b aa)
end Go.Ago
end
