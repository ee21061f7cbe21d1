/-
  Part B33: lemmas, each with its own conditions.
-/
import Derived.Test.YthaolifcglpkdaaGreatDoorB32
set_option maxRecDepth 100000
set_option maxHeartbeats 0
set_option linter.all false
section
namespace Go.Ago
open Go.Proofs List Nat Tryz
def jh (l:List Bd):Nat->Nat
 | 0=>0
 | m+1=>jh l m+(if h:m<l.length then l[m].ins.l.length else 0)
theorem JT {l:List Bd}{m:Nat}(h:m<l.length):jh l (m+1)=jh l m+l[m].ins.l.length:=by show jh l m+_=_;grind
structure pA (c:Cd):Prop extends OutOK c where
 pb:oM c.p.procs=false
 sum:jh c.b.l c.b.l.length≤20000
def tS (l:List Bd)(n:Nat):Prop:=∀(j:Nat) (h:j<l.length),j<n->0≤l[j].ah∧l[j].ah≤4000
theorem tS.step {l:List Bd}{n:Nat}(h:tS l n)(b:n<l.length)(hi:0≤l[n].ah∧l[n].ah≤4000):tS l (n+1):=fun j c d=>by
 rcases zbI j n with a|a
 . exact h j _ a
 grind
def cJ (c:Cd):Prop:=pA c∧∃h:OutOK c,∀(q:Nat) (a:q<c.b.l.length),∀i∈c.b.l[q].ins.l,ir i∧jE (fy c h q a) i
def tF (c:Cd)(h:OutOK c)(n:Nat):Prop:=∀(q:Nat) (a:q<c.b.l.length),q<n->∀i∈c.b.l[q].ins.l,ir i∧jE (fy c h q a) i
def tC (c:Cd)(h:OutOK c)(q:Nat)(a:q<c.b.l.length)(n:Nat):Prop:=∀i∈c.b.l[q].ins.l.take n,ir i∧jE (fy c h q a) i
theorem tC.step {c:Cd}{h:OutOK c}{q:Nat}{d:q<c.b.l.length}{n:Nat}(e:tC c h q d n)(f:n<c.b.l[q].ins.l.length)(hi:ir c.b.l[q].ins.l[n]∧jE (fy c h q d) c.b.l[q].ins.l[n]):tC c h q d (n+1):=fun i a=>by
 rw[zbi f] at *;rcases zbL.1 a with a|a
 . exact e i a
 grind
theorem tF.step {c:Cd}{h:OutOK c}{m:Nat}(f:tF c h m)(o:m<c.b.l.length){n:Nat}(p:tC c h m o n)(g:c.b.l[m].ins.l.length≤n):tF c h (m+1):=fun q j k i a=>by
 rcases zbI q m with e|e
 . exact f q _ e i a
 have:q=m:=aa;subst this;exact p i (by rw[zbj g];exact a)
theorem cJ.of {c:Cd}{h:OutOK c}(d:pA c){m:Nat}(e:tF c h m)(f:c.b.l.length≤m):cJ c:=⟨d,h,fun q g i a=>e q _ aa i a⟩
theorem cJ.no {c:Cd}{h:OutOK c}{q n:Nat}(d:q<c.b.l.length)(e:n<c.b.l[q].ins.l.length)(hi:¬(ir c.b.l[q].ins.l[n]∧jE (fy c h q d) c.b.l[q].ins.l[n])):¬cJ c:=fun ⟨_,f,a⟩=>hi (a q _ _ (ag))
theorem Jw {c:Cd}{x:Nat}{b:Bool}(d:du c.p=0)(e:c.b.l.length=c.p.procs.l.length)(f:oM c.p.procs=false)(g:tS c.b.l x)(i:x≤c.b.l.length)(h0:c.b.l.length≤x)(j:b=decide (jh c.b.l x≤20000)):∃y,AE.ret (.bool b) = .ret (.bool y)∧(y=true↔pA c):=by
 obtain rfl:x=c.b.l.length:=Nat.le_antisymm i h0;subst j;exact⟨_,rfl,fun h=>⟨⟨d,e,fun p a=>g p _ a⟩,f,of_decide_eq_true h⟩,fun h=>zbF h.sum⟩
theorem Jx {c:Cd}{b:Bool}(h:b=true↔pA c):∃x,AE.ret (.bool b) = .ret (.bool x)∧(x=true↔pA c):=⟨b,rfl,h⟩
end Go.Ago
namespace Go.Ago
open Go.Proofs List Nat Tryz
attribute [local irreducible] bA bw aV bp bG wr aZ bF comp DC DP DW DV
attribute [local irreducible] du ct aL cE dE dm dR dL nM nG l5 pO np oR l8 n_ lD qT oM mB nN n6 mP kA lh lS fV mm lY kE ir jE rf
theorem WZ (c:Cd)(d:∀m,jh c.b.l m≤100000):af 54 [c.av] (cc fun x=>x=true↔pA c):=by
 refine zw func54 ?_;have q:=c.p.procs.h;have g:=c.b.h;refine zg ?_
 repeat' ((first|(refine zp ?_ ?_<;>intro h)|(refine DC.pure rfl (AP c.p) ?_;rintro _ rfl)|(refine DC.pure rfl (W6 c.p.procs) ?_;rintro _ rfl))<;>refine zg ?_)
 all_goals first|(refine Jx ⟨fun a=>(by cases a),fun a=>?_⟩;exfalso;first|exact absurd a.ck bD|(have:=a.len;omega)|(have:=a.pb;simp_all;done))|skip
 refine DW.aO aC aD [2,27,28] [] 0 (fun x:{n:Nat // tS c.b.l n∧n≤c.b.l.length}=>[(29,i64 x.1),(3,i64 (jh c.b.l x.1))]) (fun _=>[]) [] (fun x=>c.b.l.length+1 - x.1) (⟨0,(fun j h a=>absurd a (zbK _)),zbq _⟩) ?_
 refine zl fun x=>?_
 have f:=d x.1;have k:=x.2.2;refine zg ?_
 repeat' ((refine zp ?_ ?_<;>intro h)<;>refine zg ?_)
 all_goals first|(refine Jw (x:=x.1) ?_ ?_ ?_ x.2.1 x.2.2 ?_ (zbF ?_).symm;assumption;omega;assumption;omega;omega)|(refine Jw (x:=x.1) ?_ ?_ ?_ x.2.1 x.2.2 ?_ (zbT ?_).symm;assumption;omega;assumption;omega;omega)|(have o:=JT (l:=c.b.l) (m:=x.1) aa;have i:=d (x.1+1);refine⟨⟨x.1+1,x.2.1.step aa aa,aa⟩,(by(conv=>whnf);(repeat' first|exact True.intro|apply And.intro|rfl|exact zbc (AV.int .i64) (by(try dsimp only);(try simp only[zba]);rw[aE aa aa];omega))),rfl,eY⟩)|(refine Jx ⟨fun a=>(by cases a),fun a=>?_⟩;exfalso;(have:=a.ah x.1 aa;omega))
theorem FH (c:Cd)(v:∀m,jh c.b.l m≤100000):af 14 [c.av] (eS fun e=>e=0↔cJ c):=by
 refine zw func14 ?_;have A:=c.p.procs.h;have t:=c.b.h;refine zg ?_
 repeat' ((first|(refine zp ?_ ?_<;>intro h)|(refine DC.pure rfl (WZ c v) ?_;rintro _ ⟨y,rfl,f⟩))<;>refine zg ?_)
 all_goals first|(refine⟨_,rfl,fun h=>(by cases h),fun h=>?_⟩;exfalso;have:=f.2 h.1;simp_all;done)|skip
 have g:pA c:=f.1 bD;have d:OutOK c:=g.toOutOK;refine DW.aO aC aD [1,2,11,12] [] 0 (fun m:{n:Nat // tF c d n}=>[(13,i64 m.1)]) (fun _=>[]) [] (fun m=>c.b.l.length+1 - m.1) (⟨0,fun q w h=>absurd h (zbK _)⟩) ?_
 refine zl fun m=>?_
 refine zg ?_
 repeat' ((refine zp ?_ ?_<;>intro h)<;>refine zg ?_)
 all_goals skip
 . have a : m.1 < c.b.l.length := aa
   have u:=(c.b.l[m.1]).ins.h;refine DW.aO aC aD [1,2,3,4,11,12,13,14,15,16,17,18,19,20] [] 0 (fun n:{n:Nat // tC c d m.1 a n}=>[(21,i64 n.1)]) (fun _=>[]) [] (fun n=>(c.b.l[m.1]'(a)).ins.l.length+1 - n.1) (⟨0,fun i s=>(by cases s)⟩) ?_
   refine zl fun n=>?_
   refine zg ?_
   repeat' ((first|(refine zp ?_ ?_<;>intro h)|(refine DC.pure rfl (OM (c.b.l[m.1].ins.l[n.1]'aa)) ?_;rintro _ ⟨x,rfl,j⟩)|(refine DC.pure rfl (XY (fy c d m.1 a) (UH d m.1 a) (c.b.l[m.1].ins.l[n.1]'aa)) ?_;rintro _ ⟨z,rfl,k⟩))<;>refine zg ?_)
   all_goals first|(refine⟨_,rfl,fun h=>(by cases h),fun h=>?_⟩;refine absurd h (cJ.no (h:=d) (q:=m.1) (n:=n.1) a aa fun r=>?_);(have:=j.2 r.1;simp_all;done))|(refine⟨⟨n.1+1,n.2.step aa ⟨j.1 bD,k.1 bD⟩⟩,?_,rfl,?_⟩<;>first|((conv=>whnf);(exact o8);done)|((try simp only[zba] at *)<;>omega))|exact zi ⟨m.1+1,m.2.step a n.2 aa⟩
 . exact⟨_,rfl,fun _=>cJ.of g m.2 aa,fun _=>rfl⟩
end Go.Ago
end
namespace Go.Ago
open Go.Proofs List Nat Tryz
attribute [local irreducible] aL cE ct du nM nG l5 pO np oR l8 n_ lD qT oM
theorem kA.ok {k:Kc}{r m:Int}(h:kA k r m):r = -1∨aL k r:=h.elim (fun h => .inl h.1) fun h => .inr h.1
theorem lh.ok {k:Kc}{r:Int}{x:Bool}(h:lh k r x):r = -1∨aL k r:=h.elim (fun h => .inr h.2) fun h => .inl h.2
theorem kE.ok {k:Kc}{i:Ins}(h:kE k i (aL k i.a)):dE k i:=by
 unfold kE at h;unfold dE;rcases h with⟨c,h⟩|⟨c,h⟩|⟨c,h⟩|⟨c,h⟩|⟨c,h⟩|⟨c,h⟩|⟨c,h⟩
 . exact⟨fun _=>h,fun e=>aa,fun e=>aa,fun e=>aa,fun e=>aa⟩
 . exact⟨fun e=>aa,fun _=>h,fun e=>aa,fun e=>aa,fun e=>aa⟩
 . exact⟨fun e=>aa,fun e=>aa,fun _=>⟨EO h.1,h.2⟩,fun e=>aa,fun e=>aa⟩
 . exact⟨fun e=>aa,fun e=>aa,fun e=>aa,fun _=>h.2.2.ok,fun e=>aa⟩
 . exact⟨fun e=>aa,fun e=>aa,fun e=>aa,fun e=>aa,fun _=>h.imp id (·.1)⟩
 . exact⟨fun e=>aa,fun e=>aa,fun e=>aa,fun e=>aa,fun e=>aa⟩
 . exact⟨fun e=>aa,fun e=>aa,fun e=>aa,fun e=>aa,fun e=>aa⟩
theorem lY.ok {k:Kc}{i:Ins}(h:lY k i (aL k i.d) (aL k i.a) (aL k i.b)):dm k i:=by
 unfold lY at h;unfold dm;rcases h with⟨c,h⟩|⟨c,h⟩|⟨c,h⟩|⟨c,h⟩|⟨c,h⟩|⟨c,h⟩|⟨c,h⟩|⟨c,h⟩|⟨c,h⟩|⟨c,h⟩|⟨c,h⟩|c
 all_goals (repeat' apply And.intro)<;>intro e<;>first|(exfalso;omega)|skip
 all_goals first
  | exact⟨h.1,h.2.2.2.ok⟩
  | exact⟨h.1,h.2.ok⟩
  | exact⟨h.1,h.2.2.2.2.2.2⟩
  | exact⟨h.1,h.2.2.1.elim (fun h => .inl h.1) (fun h => .inr h.1),h.2.2.2.2⟩
  | exact⟨h.2.2.1,h.2.2.2.2.elim (fun h => .inl h.2.1) (fun h => .inr h.2.1)⟩
  | exact⟨h.1,h.2.1⟩
  | exact⟨h.1,h.2.1,h.2.2.1⟩
  | exact h.1
  | exact h
theorem jE.ok {k:Kc}{i:Ins}(h:jE k i):dL k i:=by
 obtain⟨a,h⟩:=h;unfold rf at h;unfold dL;refine⟨a,?_⟩;rcases h with⟨c,h⟩|⟨c,h⟩|⟨c,h⟩|⟨c,h⟩|⟨c,h⟩|⟨c,h⟩|⟨c,h⟩|⟨c,h⟩|⟨c,h⟩|⟨c,h⟩|⟨c,h⟩|⟨c,h⟩|⟨c,h⟩|⟨c,d,f,h⟩|⟨c,h⟩
 all_goals (repeat' apply And.intro)<;>intro e<;>first|(exfalso;omega)|(intro b;exfalso;omega)|skip
 all_goals first
  | exact⟨h.1,h.2.1,h.2.2.elim (fun h => .inl h.2.1) (fun h => .inr h.2.1)⟩
  | exact⟨h.1,h.2.1,h.2.2.1⟩
  | exact⟨h.1,h.2.1⟩
  | exact h.1
  | exact h
  | exact fun _=>h.ok
theorem wQ {i:Ins}(h:ir i){x:UInt8×Bool}(a:x∈gL i)(b:hasB i.op x.1=false):x.2=true:=(h.2 x a).resolve_right (by grind)
theorem ir.ok {i:Ins}(h:ir i):dR i:=by
 refine⟨h.1,fun e=>?_,fun e=>?_,fun e=>?_,fun e=>?_⟩
 . have := wQ h (x := (68, aV i.d (-1))) (by simp [gL]) e
   exact(mZ ▸ this:_)
 . have := wQ h (x := (65, aV i.a (-1))) (by simp [gL]) e
   exact(mZ ▸ this:_)
 . have := wQ h (x := (66, aV i.b (-1))) (by simp [gL]) e
   exact(mZ ▸ this:_)
 . have := wQ h (x := (76, aV ((i.l.l.map fun n => [i64 n]).length : Int) 0)) (by simp [gL]) e
   dsimp only at this;rw[mZ] at this;exact zbh (by simpa using this)
theorem cJ.ok {c:Cd}(h:cJ c):qZ c:=by
 obtain⟨_,d,b⟩:=h;exact⟨d,fun q e i a=>⟨(b q _ i a).1.ok,(b q _ i a).2.ok⟩⟩
end Go.Ago
namespace Go.Ago
open Go.Proofs List Nat Tryz
open Classical in
noncomputable def bU (c:Cd):Int:=if h:∀m,jh c.b.l m≤100000 then Classical.choose (DP.ny (FH c h)) else 1
theorem uh (c:Cd)(h:∀m,jh c.b.l m≤100000):bU c=0↔cJ c:=by
 unfold bU
 grind
theorem Qq (c:Cd)(h0:bU c=0):qZ c:=by
 by_cases h:∀m,jh c.b.l m≤100000
 . exact((uh c h).1 h0).ok
 unfold bU at *
 grind
theorem Qc (c:Cd)(h:∀m,jh c.b.l m≤100000):af 14 [c.av] (fun d=>d = .ret (i64 (bU c))):=by
 have:=(zbw (DP.ny (FH c h))).2;unfold bU
 grind
def bK (bs:List Bd):Nat:=(bs.map fun b=>b.ins.l.length).sum
theorem sH {bs:List Bd}:∀{m:Nat},jh bs m≤bK bs
 | 0=>zbq _
 | m + 1 => by
   have a:∀(l:List Bd) (m:Nat),jh l m≤((l.take m).map fun b=>b.ins.l.length).sum:=fun l m=>by
    induction m with
    | zero=>exact zbq _
    | succ m e =>
      by_cases h:m<l.length
      . rw [JT h, zbi h, zb9, sum_append]
        grind
      . show jh l m + _ ≤ _
        grind
   refine zbu (a bs (m+1)) ?_;unfold bK
   conv=>rhs;rw[<-zb7 (m+1) bs]
   grind
theorem iW (c:Cd)(h:bK c.b.l≤100000):af 14 [c.av] (fun a=>a = .ret (i64 (bU c))):=Qc c fun m=>zbu sH h
end Go.Ago
namespace Go.Ago
open Go.Proofs List Nat Tryz
attribute [local irreducible] bA bw aV bp bG wr aZ bF comp DC DP DW DV
attribute [local irreducible] du ct aL cE dE dm dR dL
abbrev cS (i:Ins):Prop:=i.op≠14∧i.op≠16∧i.op≠18∧i.op≠37
abbrev iw (i:Ins):Prop:=i.op=2∨i.op=3∨i.op=6∨i.op=26∨i.op=32∨i.op=34∨i.op=35∨i.op=36∨(i.op=4∧i.n≠5)
def aH (i:Ins):Int:=if hasB i.op 68=true then i.d else -1
def bP (i:Ins):List Int:=if i.op=14∨i.op=15 then [i.n] else if i.op=28∨i.op=29 then [i.m] else []
theorem RY (i:Ins):af 74 [i.av] (cc fun b=>b=true↔cS i):=by
 exact zw func74 W
theorem wV (i:Ins):af 74 [i.av] (jV (cS i)):=DP.dec (RY i)
theorem XD (i:Ins):af 120 [i.av] (cc fun b=>b=true↔iw i):=by
 exact zw func120 W
theorem XB (i:Ins):af 120 [i.av] (jV (iw i)):=DP.dec (XD i)
theorem oY (i:Ins):af 76 [i.av] (fun b=>b = .ret (i64 (aH i))):=by
 refine zw func76 ?_;refine zg ?_
 repeat' ((first|(refine zp ?_ ?_<;>intro h)|(refine DC.pure rfl (B4 _ _) ?_;rintro _ rfl))<;>refine zg ?_)
 all_goals (simp only[aH, *];rfl)
theorem Z5 (i:Ins):af 73 [i.av] (fun b=>∃l:List Int,b = .ret (bif l.isEmpty then .ai else .ak 1 (l.map fun n=>[i64 n]))∧l=bP i):=by
 refine zw func73 ?_;refine zg ?_
 repeat' ((refine zp ?_ ?_<;>intro h)<;>refine zg ?_)
 all_goals first|exact⟨[i.n],rfl,by simp[bP, *]⟩|exact⟨[i.m],rfl,by simp[bP, *]⟩|exact⟨[],rfl,by simp[bP, *]⟩
theorem sY (i:Ins):af 73 [i.av] (fun a=>a = .ret (aT (bP i))):=by
 refine(DP.norm (Z5 i)).mono ?_;simp
structure Gr where
 ins:BL Ins
 ah:Int
 entries:BL Int
abbrev Gr.cells (g:Gr):List AV:=[mc g.ins.l,i64 g.ah,aT g.entries.l]
abbrev Gr.av (g:Gr):AV := .agg g.cells
def mT (l:List Ins)(n:Nat):Prop:=∀(p:Nat) (h:p<l.length),p<n->bP l[p]=[]∧(cS l[p]∨(l.length:Int) - 1≤p)
def g_ (g:Gr):Prop:=g.entries.l=[]∧mT g.ins.l g.ins.l.length
theorem mT.nil {l}:mT l 0:=fun _ _ h=>aa
theorem mT.step {l n}(h:mT l n)(b:n<l.length)(c:bP l[n]=[])(d:cS l[n]∨(l.length:Int) - 1≤n):mT l (n+1):=fun j e f=>by
 rcases zbI j n with a|a
 . exact h j _ a
 grind
theorem g_.Wn {g:Gr}{n:Nat}(b:n<g.ins.l.length)(h:bP g.ins.l[n]≠[]):¬g_ g:=fun a=>h (a.2 n _ b).1
theorem g_.Wm {g:Gr}{n:Nat}(a:n<g.ins.l.length)(h:¬cS g.ins.l[n])(d:(n:Int)<g.ins.l.length - 1):¬g_ g:=fun c=>by
 rcases(c.2 n a a).2 with b|b<;>grind
theorem g_.Wl {g:Gr}(h:0<(g.entries.l.length:Int)):¬g_ g:=fun a=>by rw[a.1] at h;grind
theorem len_nil {l:List Int}(h:¬0<(l.length:Int)):l=[]:=zbh aa
theorem Va {l:List Int}(h:0<(l.length:Int)):l≠[]:=fun e=>by grind
theorem T4 (c:Cd)(n:Int):af 32 [c.av,i64 n] (cc fun b=>b=true↔0≤n∧n<c.b.l.length):=by
 refine zw func32 ?_;have d:=c.b.h;refine zg ?_
 repeat' ((refine zp ?_ ?_<;>intro h)<;>refine zg ?_)
 all_goals exact⟨_,rfl,by simp only[true_iff,zcY,zbH];omega⟩
theorem ZP (g:Gr):af 34 [g.av] (cc fun b=>b=true↔g_ g):=by
 refine zw func34 ?_;have e:=g.ins.h;have d:=g.entries.h;refine zg ?_
 repeat' ((refine zp ?_ ?_<;>intro h)<;>refine zg ?_)
 all_goals first|exact⟨_,rfl,by simp only[zcY,zbH];exact g_.Wl aa⟩|skip
 refine DW.aO aC aD [1,2,10,11] [] 0 (fun n:{n:Nat // mT g.ins.l n}=>[(12,i64 n.1)]) (fun _=>[]) [] (fun n=>g.ins.l.length+1 - n.1) (⟨0,mT.nil⟩) ?_
 refine zl fun n=>?_
 refine zg ?_
 repeat' ((first|(refine zp ?_ ?_<;>intro h)|(refine DC.pure rfl (sY (g.ins.l[n.1]'aa)) ?_;rintro _ rfl)|(refine DC.pure rfl (wV (g.ins.l[n.1]'aa)) ?_;rintro _ (⟨rfl,a⟩|⟨rfl,a⟩)))<;>refine zg ?_)
 all_goals (try rw[aE aa aa] at h)
 all_goals first|exact⟨_,rfl,by simp only[zcY,zbH];first|exact g_.Wn (n:=n.1) aa (Va aa)|exact g_.Wm (n:=n.1) aa a aa⟩|exact⟨_,rfl,by simp only[true_iff];exact⟨len_nil aa,fun p h _=>n.2 p h aa⟩⟩|exact zi ⟨n.1+1,mT.step n.2 aa (len_nil aa) (by first|exact Or.inl a|exact Or.inr aa)⟩
end Go.Ago
namespace Go.Ago
open Go.Proofs List Nat Tryz
def aY (g:Gr)(a:Nat):List Int:=
 if h:a<g.ins.l.length then (if iw g.ins.l[a] then bP g.ins.l[a] else bP g.ins.l[a]++g.entries.l) else g.entries.l
abbrev cn (g:Gr):Nat:=(g.ah.toNat+63) / 64
abbrev gj (n:Nat):List aA:=replicate n 0
structure cN (g:Gr):Prop where
 ah:0≤g.ah∧g.ah≤64
 eT:g.ins.l.length≤1000∧g.entries.l.length≤1000
 jm:∀i∈g.ins.l,∀r∈aQ i,0≤r∧r<g.ah
 gx:∀i∈g.ins.l,aH i<g.ah
 fH:∀i∈g.ins.l,i.l.l.length≤40
 nT:∀i∈g.ins.l,∀t∈bP i,0≤t∧t≤(g.ins.l.length:Int)
 fw:∀t∈g.entries.l,0≤t∧t≤(g.ins.l.length:Int)
structure ShS (g:Gr)(S:List (List aA)):Prop where
 len:S.length=g.ins.l.length+1
 row:∀ws∈S,ws.length=cn g
abbrev aK (S:List (List aA))(k:Nat):List aA:=S.getD k []
def f_ (g:Gr)(S:List (List aA))(a:Nat):List aA:=
 if h:a<g.ins.l.length then (if cS g.ins.l[a] then (if 0≤aH g.ins.l[a] then iz (cy (gj (cn g)) (aK S (a+1))) (aH g.ins.l[a]).toNat else cy (gj (cn g)) (aK S (a+1))) else gj (cn g)) else gj (cn g)
def gh (z:List aA)(l:List Int):List aA:=l.foldl (fun a r=>eB a r.toNat) z
def eR (S:List (List aA))(z:List aA)(l:List Int):List aA:=l.foldl (fun a t=>cy a (aK S t.toNat)) z
def ff (g:Gr)(S:List (List aA))(a:Nat):List aA:=if h:a<g.ins.l.length then gh (f_ g S a) (aQ g.ins.l[a]) else f_ g S a
def ia (g:Gr)(S:List (List aA))(a:Nat):List aA:=eR S (ff g S a) (aY g a)
def eX (g:Gr)(S:List (List aA))(a:Nat):List (List aA):=S.set a (cy (aK S a) (ia g S a))
theorem sJ {ws:List aA}{r:Nat}:(eB ws r).length=ws.length:=by simp[eB]
theorem Rg {ws:List aA}{r:Nat}:(iz ws r).length=ws.length:=by simp[iz]
theorem qx {a b:List aA}(h:a.length=b.length):(cy a b).length=a.length:=by simp[cy,h]
theorem eK {g:Gr}{S:List (List aA)}(h:ShS g S){k:Nat}(b:k≤g.ins.l.length):(aK S k).length=cn g:=by
 have a:k<S.length:=by rw[h.len];omega
 rw[aK,getD,zbf a];exact h.row _ (ag)
theorem wu {n r:Nat}:bB (gj n) r=false:=by
 unfold bB gj
 by_cases h:r / 64<n<;>grind
theorem pd {n:Nat}:(gj n).length=n:=zcm
theorem O1 {ws:List aA}{r:Nat}(h:64 * ws.length≤r):bB ws r=false:=by
 unfold bB
 grind
theorem mh {g:Gr}(h:cN g):g.ah≤64 * (cn g:Int):=by grind
theorem qp {g:Gr}(h:cN g):cn g≤1:=by have:=h.ah;grind
theorem O2 {l:List Int}:∀{z:List aA} {n:Nat},z.length=n->(∀r∈l,0≤r∧r<64 * (n:Int))->∀s,bB (gh z l) s=true↔((s:Int)∈l∨bB z s=true):=by
 induction l with
 | nil=>simp[gh]
 | cons r l f =>
   intro z n e c s;have h:=c r (ag);have:=f (z:=eB z r.toNat) (by rw[sJ,e]) (fun x g=>c x (zbO _ g)) s
   rw[show gh z (r::l)=gh _ l from rfl,this,wm (aa)]
   grind
theorem yn {l:List Int}:∀{z:List aA},(gh z l).length=z.length:=by
 induction l with
 | nil=>intro z;rfl
 | cons r l b=>intro z;rw[show gh z (r::l)=gh _ l from rfl,b,sJ]
theorem O0 {S:List (List aA)}{l:List Int}:∀{z:List aA} {n:Nat},z.length=n->(∀t∈l,(aK S t.toNat).length=n)->∀s,bB (eR S z l) s=true↔(bB z s=true∨∃t∈l,bB (aK S t.toNat) s=true):=by
 induction l with
 | nil=>intro z n _ _ s;simp[eR]
 | cons r l f =>
   intro z n a d s;have e:=d r zck;have:=f (z:=cy z (aK S r.toNat)) (n:=n) (by rw[qx (by rw[a,e]),a]) (fun x h=>d x (zbO _ h)) s
   rw[show eR S z (r::l)=eR S (cy z (aK S r.toNat)) l from rfl,this,wj (by rw[a,e])]
   simp only[zbB,zbQ,exists_eq_or_imp,or_assoc]
theorem Jv {S:List (List aA)}{l:List Int}:∀{z:List aA} {n:Nat},z.length=n->(∀t∈l,(aK S t.toNat).length=n)->(eR S z l).length=n:=by
 induction l with
 | nil=>intro z n h _;exact h
 | cons r l d =>
   intro z n e f;exact d (by rw[qx (by grind),e]) (fun x b=>f x (zbO _ b))
theorem vZ {g:Gr}(h:cN g){k:Nat}:∀t∈aY g k,0≤t∧t≤(g.ins.l.length:Int):=by
 intro t a;unfold aY at a;split at a
 . rename_i b
   split at a
   . exact h.nT _ (za9 b) t a
   . rcases zbL.1 a with a | a
     . exact h.nT _ (za9 b) t a
     . exact h.fw t a
 . exact h.fw t a
theorem Ap {g:Gr}(h:cN g){S:List (List aA)}(b:ShS g S){k:Nat}:∀t∈aY g k,(aK S t.toNat).length=cn g:=fun t a=>eK b (by have:=vZ h t a;omega)
theorem zn {i:Ins}:(bP i).length≤1:=by
 unfold bP
 grind
theorem OD {g:Gr}(h:cN g){k:Nat}:(aY g k).length≤1001:=by
 have:=h.eT;unfold aY;split
 . have := @zn (g.ins.l[k])
   grind
 omega
def lf (g:Gr)(M:Nat->Nat->Prop)(k r:Nat):Prop:=
 (∃h:k<g.ins.l.length,(cS g.ins.l[k]∧M (k+1) r∧(r:Int)≠aH g.ins.l[k])∨(r:Int)∈aQ g.ins.l[k])∨∃t∈aY g k,M t.toNat r
def po (g:Gr)(M:Nat->Nat->Prop):Prop:=∀k r,k≤g.ins.l.length->lf g M k r->M k r
abbrev hJ (S:List (List aA))(k r:Nat):Prop:=bB (aK S k) r=true
theorem sy {g:Gr}{S:List (List aA)}(b:ShS g S){k:Nat}:(f_ g S k).length=cn g:=by
 unfold f_;split
 . rename_i c
   have a:=eK b (k:=k+1) aa;split
   . split
     . rw[Rg,qx (by rw[pd,a]),pd]
     . rw[qx (by rw[pd,a]),pd]
   . simp
 . simp
theorem CL {g:Gr}{S:List (List aA)}(a:ShS g S){k:Nat}:(ff g S k).length=cn g:=by
 unfold ff;split
 . rw[yn,sy a]
 exact sy a
theorem xP {g:Gr}(h:cN g){S:List (List aA)}(a:ShS g S){k:Nat}:(ia g S k).length=cn g:=Jv (CL a) (Ap h a)
theorem I6 {g:Gr}(i:cN g){S:List (List aA)}(m:ShS g S){k r:Nat}:bB (f_ g S k) r=true↔∃h:k<g.ins.l.length,cS g.ins.l[k]∧hJ S (k+1) r∧(r:Int)≠aH g.ins.l[k]:=by
 unfold f_;split
 . rename_i c
   have e:=eK m (k:=k+1) aa;have f:bB (cy (gj (cn g)) (aK S (k+1))) r=bB (aK S (k+1)) r:=by rw[wj (by rw[pd,e]),wu,Bool.false_or]
   have j:=i.gx _ (za9 c);split
   . rename_i d
     split
     . rename_i n
       rw[OZ (by rw[qx (by rw[pd,e]),pd];have:=mh i;omega),f]
       simp only[zbe,zb4,zcZ]
       constructor
       . rintro⟨a,b⟩;exact⟨c,d,b,aa⟩
       . rintro⟨_,_,a,b⟩;exact⟨aa,a⟩
     . rw [f]
       constructor
       . intro a;exact⟨c,d,a,aa⟩
       . rintro⟨_,_,a,_⟩;exact a
   . rename_i d
     rw[wu];simp only[zbH,zcY]
     rintro⟨_,a,_⟩;exact d a
 . rename_i c
   rw[wu];simp only[zbH,zcY]
   rintro⟨a,_⟩;exact c a
theorem I5 {g:Gr}(c:cN g){S:List (List aA)}(b:ShS g S){k r:Nat}:bB (ia g S k) r=true↔lf g (hJ S) k r:=by
 unfold ia;rw[O0 (CL b) (Ap c b)];unfold lf;refine or_congr ?_ Iff.rfl;unfold ff;split
 . rename_i d
   rw[O2 (sy b) (fun r e=>by have:=c.jm _ (za9 d) r e;have:=mh c;omega),I6 c b]
   grind
 . rename_i d
   rw[I6 c b]
   constructor
   . rintro⟨a,_⟩;exact absurd a d
   . rintro⟨a,_⟩;exact absurd a d
theorem lf.mono {g:Gr}{M N:Nat->Nat->Prop}(h:∀k r,M k r->N k r){k r:Nat}(e:lf g M k r):lf g N k r:=by
 rcases e with⟨d,⟨a,b,c⟩|a⟩|⟨t,a,b⟩
 . exact .inl ⟨d,.inl ⟨a,h _ _ b,c⟩⟩
 . exact .inl ⟨d,.inr a⟩
 exact .inr ⟨t,a,h _ _ b⟩
def mL (g:Gr)(S:List (List aA)):Prop:=∀M,po g M->∀k r,hJ S k r->M k r
theorem ShS.zero {g:Gr}:ShS g (replicate (g.ins.l.length+1) (gj (cn g))):=⟨ag,ag⟩
theorem mL.zero {g:Gr}{n m:Nat}:mL g (replicate n (gj m)):=by
 intro M _ k r h;have h:bB _ r=true:=h
 by_cases a:k<n
 . rw[show aK _ k=gj m by grind,wu] at h;cases h
 . rw [show aK _ k = [] by grind] at h
   rw[O1 ag] at h;cases h
theorem ShS.step {g:Gr}(c:cN g){S:List (List aA)}(a:ShS g S){k:Nat}(b:k≤g.ins.l.length):ShS g (eX g S k):=by
 refine⟨by rw[eX,zbP,a.len],fun d h=>?_⟩
 rcases mem_or_eq_of_mem_set h with h|rfl
 . exact a.row _ h
 rw[qx (by rw[eK a b,xP c a]),eK a b]
theorem row_step {g:Gr}{S:List (List aA)}(b:ShS g S){k j:Nat}(c:k≤g.ins.l.length):aK (eX g S k) j=if j=k then cy (aK S k) (ia g S k) else aK S j:=by
 have a:k<S.length:=by rw[b.len];omega
 by_cases h:j=k
 . subst h;simp[eX,a]
 . simp[eX,zbV (Ne.symm h),h]
theorem mL.step {g:Gr}(f:cN g){S:List (List aA)}(b:ShS g S)(d:mL g S){k:Nat}(c:k≤g.ins.l.length):mL g (eX g S k):=by
 intro M a j r h;have h:bB _ r=true:=h;rw[row_step b c] at h
 by_cases e:j=k
 . subst e
   rw[if_pos rfl,wj (by rw[eK b c,xP f b]),zbQ] at h
   rcases h with h|h
   . exact d M a j r h
   exact a j r c (lf.mono (d M a) ((I5 f b).1 h))
 rw[if_neg e] at h;exact d M a j r h
def Sat (g:Gr)(S:List (List aA))(k:Nat):Prop:=cy (aK S k) (ia g S k)=aK S k
structure fD (g:Gr)(S:List (List aA)):Prop extends ShS g S where
 fix:po g (hJ S)
 low:mL g S
theorem fD.mk' {g:Gr}(c:cN g){S:List (List aA)}(a:ShS g S)(d:mL g S)(h:∀k,k≤g.ins.l.length->Sat g S k):fD g S:=
 ⟨a,fun k r b f=>by
  have i:=(I5 c a).2 f;have e:=h k b;show bB _ r=true;rw[<-e,wj (by rw[eK a b,xP c a]),i,Bool.or_true],d⟩
def iF (ws:List aA):Nat:=(ws.map fun w=>2 ^ 64 - w.toNat).sum
def jS (S:List (List aA)):Nat:=(S.map iF).sum
theorem I0:∀{a b:List aA},a.length=b.length->iF (cy a b)≤iF a∧(cy a b≠a->iF (cy a b)<iF a)
 | [],[],_=>⟨zbm _,fun h=>absurd rfl h⟩
 | x :: a, y :: b, h => by
   have i:=@I0 a b (by simpa using h)
   have m:=x.isLt;have n:x.toNat≤(x ||| y).toNat:=by rw[BitVec.toNat_or];exact left_le_or
   have l:=(x ||| y).isLt
   have k:iF (cy (x::a) (y::b))=(2 ^ 64 - (x ||| y).toNat)+iF (cy a b):=by simp[iF,cy]
   have j:iF (x::a)=(2 ^ 64 - x.toNat)+iF a:=by simp[iF]
   rw[k,j];refine⟨aa,fun f=>?_⟩
   by_cases c:x ||| y=x
   . have : cy a b ≠ a := fun e => f (by show (x ||| y) :: cy a b = x :: a; rw [c, e])
     have:=i.2 this;rw[c];omega
   . have : (x ||| y).toNat ≠ x.toNat := fun e => c (BitVec.eq_of_toNat_eq e)
     omega
theorem LS:∀{l:List Nat} {k v:Nat} (h:k<l.length),(l.set k v).sum+l[k]=l.sum+v
 | x::l,0,v,_=>by grind
 | x :: l, k + 1, v, h => by
   have:=@LS l k v (by grind)
   grind
theorem IZ {g:Gr}(f:cN g){S:List (List aA)}(b:ShS g S){k:Nat}(e:k≤g.ins.l.length):jS (eX g S k)≤jS S∧(¬Sat g S k->jS (eX g S k)<jS S):=by
 have c:k<S.length:=by rw[b.len];omega
 have a:k<(S.map iF).length:=by simpa using c
 have h:=@I0 (aK S k) (ia g S k) (by rw[eK b e,xP f b])
 have j:=LS (v:=iF (cy (aK S k) (ia g S k))) a;have i:jS (eX g S k)=((S.map iF).set k (iF (cy (aK S k) (ia g S k)))).sum:=by simp[jS,eX]
 have m:(S.map iF)[k]=iF (aK S k):=by grind
 rw[i];unfold jS;exact⟨aa,fun d=>by have:=h.2 d;omega⟩
theorem LJ {g:Gr}{S:List (List aA)}(b:ShS g S){k:Nat}(c:k≤g.ins.l.length)(h:Sat g S k):eX g S k=S:=by
 have a:k<S.length:=by rw[b.len];omega
 unfold eX;rw[h]
 simp_all
theorem po.congr {g g':Gr}(d:g'.ins.l.length=g.ins.l.length)(b:∀M k r,lf g' M k r↔lf g M k r){M:Nat->Nat->Prop}:po g' M↔po g M:=
 ⟨fun h k r c a=>h k r aa ((b M k r).2 a),fun h k r c a=>h k r aa ((b M k r).1 a)⟩
theorem fD.uniq {g g':Gr}(b:g'.ins.l.length=g.ins.l.length)(c:∀M k r,lf g' M k r↔lf g M k r){S S':List (List aA)}(h:fD g S)(a:fD g' S')(k r:Nat):bB (aK S k) r=bB (aK S' k) r:=by
 have f:=h.low _ ((po.congr b c).1 a.fix) k r;have d:=a.low _ ((po.congr b c).2 h.fix) k r;cases e:bB _ r<;>grind
theorem fD.last {g:Gr}{S:List (List aA)}(h:fD g S)(i:g.entries.l=[])(r:Nat):bB (aK S g.ins.l.length) r=false:=by
 cases e:bB _ r with
 | false=>rfl
 | true =>
   have := h.low (fun k _ => k ≠ g.ins.l.length) (fun k r f b a=>by
    rcases b with⟨c,_⟩|⟨t,d,_⟩
    . omega
    unfold aY at *
    grind) _ _ e
   grind
end Go.Ago
section
namespace Go.Ago
open Go.Proofs List Nat Tryz
theorem CJ:∀(m:Nat) (l:List Int),l.Nodup->(∀x∈l,0≤x∧x<(m:Int))->l.length≤m
 | 0, l, _, h => by
   cases l with
   | nil=>exact zbm _
   | cons x l=>have:=h x zck;omega
 | m + 1, l, b, h => by
   by_cases e:(m:Int)∈l
   . have g := CJ m (l.erase (m : Int)) (b.erase _) (fun x d=>by
      grind)
     have:=length_erase_of_mem e;omega
   . have := CJ m l b (fun x d=>by
      grind)
     omega
theorem nw {ws:List aA}{n:Nat}{r:Int}:r∈bn ws n↔∃k:Nat,r=(k:Int)∧k<n∧bB ws k=true:=by
 unfold bn
 grind
def sx (g:Gr)(S:List (List aA))(k:Nat):List Int:=bn (aK S k) g.ah.toNat
def Au (g:Gr)(S:List (List aA))(k:Nat):List aA:=if h:k<g.ins.l.length then (if 0≤aH g.ins.l[k] then eB (aK S (k+1)) (aH g.ins.l[k]).toNat else aK S (k+1)) else aK S (k+1)
def oF (g:Gr)(S:List (List aA))(k:Nat):List Int:=bn (Au g S k) g.ah.toNat
structure lW (g:Gr)(S:List (List aA))(m:Nat)(n:Int):Prop where
 nn:0≤n
 up:∀k,k<m->((sx g S k).length:Int)≤n∧((oF g S k).length:Int)≤n
 at_:n=0∨∃k,k<m∧(n=(sx g S k).length∨n=(oF g S k).length)
abbrev vL (g:Gr)(S:List (List aA))(n:Int):Prop:=lW g S g.ins.l.length n
theorem lW.nil {g:Gr}{S:List (List aA)}:lW g S 0 0:=⟨Int.le_refl _,fun k h=>absurd h (ag),.inl rfl⟩
theorem VY (a b:Int):bF true a b=max a b:=by unfold bF;grind
theorem lW.step {g:Gr}{S:List (List aA)}{m:Nat}{n:Int}(h:lW g S m n):lW g S (m+1) (max (max n (sx g S m).length) (oF g S m).length):=by
 refine⟨by have:=h.nn;omega,fun k c=>?_,?_⟩
 . rcases zbI k m with a | a
   . have:=h.up k a;omega
   . obtain rfl : k = m := aa
     omega
 . have b := h.at_
   grind
def NR (g:Gr)(S:List (List aA))(a:Nat->Int):Prop:=
 ∀k (h:k<g.ins.l.length),0≤aH g.ins.l[k]->cS g.ins.l[k]->∀r:Nat,(r:Int)<g.ah->hJ S (k+1) r->(r:Int)≠aH g.ins.l[k]->a (aH g.ins.l[k]).toNat≠a r
section
variable {g:Gr} {S:List (List aA)} {tw:Nat->Int}
end
def lA (l:List Bool):Nat:=l.count true
theorem wD:∀{l:List Bool} {i:Nat},lA (l.set i true)≤lA l+1
 | [],_=>ag
 | x :: l, 0 => by
   simp only[lA,count_cons];simp
 | x :: l, i + 1 => by
   have:=@wD l i;simp only[set_cons_succ,lA,count_cons] at *;omega
theorem AZ {n:Nat}:lA (replicate n false)=0:=by simp[lA,count_replicate]
end Go.Ago
end
namespace Go.Ago
open Go.Proofs List Nat Tryz
attribute [local irreducible] bA bw aV bp bG wr aZ bF comp DC DP DW DV
attribute [local irreducible] dU bB eB iz aW
theorem An {g:Gr}{k:Nat}(h:(k:Int)=g.ins.l.length):aY g k=g.entries.l:=dif_neg aa
theorem Oy {g:Gr}{k:Nat}(h:k<g.ins.l.length)(a:iw g.ins.l[k]):aY g k=bP g.ins.l[k]:=by rw[aY,dif_pos h,if_pos a]
theorem Ox {g:Gr}{k:Nat}(h:k<g.ins.l.length)(a:¬iw g.ins.l[k]):aY g k=bP g.ins.l[k]++g.entries.l:=by rw[aY,dif_pos h,if_neg a]
theorem Aq (g:Gr)(a:g.ins.l.length≤10000∧g.entries.l.length≤2000)(k:Nat)(f:k≤g.ins.l.length):af 84 [g.av,i64 k] (fun d=>d = .ret (aT (aY g k))):=by
 refine zw func84 ?_;have e:=g.ins.h;refine zg ?_
 repeat' ((first|(refine zp ?_ ?_<;>intro h)|(refine DC.pure rfl (sY (g.ins.l[k]'aa)) ?_;rintro _ rfl)|(refine DC.pure rfl (XB (g.ins.l[k]'aa)) ?_;rintro _ (⟨rfl,b⟩|⟨rfl,b⟩))|(refine DC.pZ rfl rfl ?_;refine DC.pure rfl (QR _ _ (by have:=@zn (g.ins.l[k]'aa);omega) (by have:=a;omega)) ?_;rintro _ rfl))<;>refine zg ?_)
 all_goals first|exact zbc AE.ret (zbc aT (An h).symm)|exact zbc AE.ret (zbc aT (Oy aa b).symm)|exact zbc AE.ret (zbc aT (Ox aa b).symm)
theorem vX (g:Gr)(a:cN g)(k:Nat)(c:k≤g.ins.l.length):af 84 [g.av,i64 k] (fun b=>b = .ret (aT (aY g k))):=Aq g ⟨zbu a.eT.1 aa,zbu a.eT.2 aa⟩ k c
end Go.Ago
section
namespace Go.Ago
open Go.Proofs List Nat Tryz
attribute [local irreducible] bA bw aV bp bG wr aZ bF comp DC DP DW DV
attribute [local irreducible] dU bB eB iz cy gh eR f_ ff ia aW aY aQ
theorem CG (n:Int)(h:0≤n∧n≤64):cM 78 [i64 n] .nil 0 (fun a H' _=>a = .ret (.ay 5 0 ((n.toNat+63) / 64) 1)∧H'.get 5=some (bV (gj ((n.toNat+63) / 64)))):=by
 refine(Wa n ⟨h.1,aa⟩).mono ?_
 simp_all
theorem DA {ws:List aA}:((ws.map j1).all fun e=>e.all hU)=true:=cU
theorem u0 {n:Nat}(ws:List aA)(b:ws.length=n)(r:Int)(h:0≤r∧r<64 * (n:Int))(c:n≤1):cM 77 [.ay 0 0 n 1,i64 r] (.put 0 (some (bV ws)) .nil) 1 (fun a H' _=>a = .ret (.ao [])∧H'.get 0=some (bV (eB ws r.toNat))):=by
 subst b;exact Xz ⟨ws,aa⟩ r h
theorem Ri {n:Nat}(ws:List aA)(b:ws.length=n)(r:Int)(h:0≤r∧r<64 * (n:Int))(c:n≤1):cM 82 [.ay 0 0 n 1,i64 r] (.put 0 (some (bV ws)) .nil) 1 (fun a H' _=>a = .ret (.ao [])∧H'.get 0=some (bV (iz ws r.toNat))):=by
 subst b;exact Rh ⟨ws,aa⟩ r h
theorem tW {n:Nat}(a b:List aA)(d:a.length=n)(e:b.length=n)(f:n≤1):cM 81 [.ay 0 0 n 1,.ay 1 0 n 1] (.put 0 (some (bV a)) (.put 1 (some (bV b)) .nil)) 2
 (fun c H' _=>c = .ret (.bool (!decide (cy a b=a)))∧H'.get 0=some (bV (cy a b))∧H'.get 1=some (bV b)):=by
 have:=N6 a b (d.trans e.symm) aa
 grind
theorem tV {n:Nat}(a b:List aA)(d:a.length=n)(e:b.length=n)(f:n≤1):cM 81 [.ay 0 0 n 1,.ay 1 0 n 1] (.put 0 (some (bV a)) (.put 1 (some (bV b)) .nil)) 2
 (fun c H' _=>c = .ret .any∧H'.get 0=some (bV (cy a b))∧H'.get 1=some (bV b)):=(tW a b d e f).Oi (by grind)
abbrev fA:Nat:=1000
def di (S:List (List aA))(j:Nat):Option an:=if h:j<S.length then some (bV S[j]) else none
def ek (n a:Nat):List (List AV):=(List.range n).map fun j=>[AV.ay (aW fA j) 0 a 1]
attribute [local irreducible] di
abbrev Dj (g:Gr):an := .arr 1 (ek (g.ins.l.length+1) (cn g))
abbrev ue (g:Gr):an := .arr 1 [[.ay 6 0 (g.ins.l.length+1) 1]]
abbrev HL (g:Gr)(S:List (List aA)):aj := .fx fA bY (di S) (.put 7 (some (ue g)) (.put 6 (some (Dj g)) (.put 0 (some (.arr 3 [g.cells])) .nil)))
theorem mw {n a k:Nat}{x:Int}(b:x=(k:Int))(h:k<n):(ek n a)[0+x.toNat]? = some [AV.ay (aW fA k) 0 a 1]:=by
 subst b;simp[ek,h]
theorem nc {S:List (List aA)}{j:Nat}:di S j=if h:j<S.length then some (bV S[j]) else none:=by with_unfolding_all rfl
theorem jy {S:List (List aA)}{j:Nat}(h:j<S.length):di S j=some (bV (aK S j)):=by
 rw[nc];grind
theorem mu {ws:List aA}{ρ:Nat->Nat}:bV ws=(bV ws).cp ρ:=by simp[an.cp,AV.r1,AV.ra,AV.r0]
theorem jR {ws:List aA}{n:Nat}:(bV ws).lt n:=by simp[an.lt,AV.l1,AV.la,AV.l0]
theorem wW {S:List (List aA)}{j n:Nat}{o:an}{ρ:Nat->Nat}(h:di S j=some o):o=o.cp ρ∧o.lt n:=by
 rw[nc] at h;split at h
 . cases h;exact⟨mu,jR⟩
 grind
theorem mr {n b m:Nat}{l:List (Nat×Nat)}(c:ble (fA+bY) m=true)(f:n≤1001):an.arr 1 (ek n b)=(an.arr 1 (ek n b)).cp (eC m fA (aW fA) l):=by
 have c:=zbb c;have g:bY=1048576:=rfl;unfold ek an.cp
 congr 1
 rw[zcz];refine zbZ fun j d=>?_
 have:=zcf.1 d;have e:blt (aW fA j) m=true:=zbs (by unfold aW;omega)
 simp[zcA,zcq,map_nil,AV.r1,AV.ra,AV.r0,eC,e,zbN]
theorem lI {n c m:Nat}(a:ble (fA+bY) m=true)(d:n≤1001):(an.arr 1 (ek n c)).lt m:=by
 have a:=zbb a;have f:bY=1048576:=rfl;show(List.all _ _)=true;unfold ek;rw[all_map,zbr];intro j b;have:=zcf.1 b;have e:blt (aW fA j) m=true:=zbs (by unfold aW;omega)
 simp[AV.l1,AV.la,AV.l0,e]
theorem Ws {g:Gr}{S:List (List aA)}{k:Nat}(h:k<g.ins.l.length)(b:cS g.ins.l[k])(a:0≤aH g.ins.l[k]):f_ g S k=iz (cy (gj (cn g)) (aK S (k+1))) (aH g.ins.l[k]).toNat:=by
 unfold f_;grind
theorem Wt {g:Gr}{S:List (List aA)}{k:Nat}(h:k<g.ins.l.length)(b:cS g.ins.l[k])(a:¬0≤aH g.ins.l[k]):f_ g S k=cy (gj (cn g)) (aK S (k+1)):=by
 unfold f_;grind
theorem Wu {g:Gr}{S:List (List aA)}{k:Nat}(h:k<g.ins.l.length)(a:¬cS g.ins.l[k]):f_ g S k=gj (cn g):=by
 unfold f_;grind
theorem Wo {g:Gr}{S:List (List aA)}{k:Nat}(h:¬k<g.ins.l.length):ff g S k=gj (cn g):=by
 unfold ff f_;grind
theorem Xw {z:List aA}{l:List Int}{i:Nat}(h:i<l.length):eB (gh z (l.take i)) (l[i]).toNat=gh z (l.take (i+1)):=by
 unfold gh;rw[zbi h,foldl_append];rfl
theorem WV {S:List (List aA)}{z:List aA}{l:List Int}{i:Nat}(h:i<l.length):cy (eR S z (l.take i)) (aK S (l[i]).toNat)=eR S z (l.take (i+1)):=by
 unfold eR;rw[zbi h,foldl_append];rfl
theorem Wp {g:Gr}{S:List (List aA)}{k i:Nat}(h:k<g.ins.l.length)(hi:(aQ g.ins.l[k]).length≤i):gh (f_ g S k) ((aQ g.ins.l[k]).take i)=ff g S k:=by
 unfold ff;rw[dif_pos h,zbj hi]
theorem Wq {g:Gr}{S:List (List aA)}{k i:Nat}(hi:(aY g k).length≤i):eR S (ff g S k) ((aY g k).take i)=ia g S k:=by
 unfold ia;rw[zbj hi]
theorem oL {g:Gr}(c:cN g){S:List (List aA)}(a:ShS g S){k i:Nat}:(eR S (ff g S k) ((aY g k).take i)).length=cn g:=
 Jv (CL a) (fun t b=>Ap c a t (zcU b))
theorem NY {g:Gr}{S:List (List aA)}{H:aj}(k:S.length≤2000)(h0:H.get 0=some (.arr 3 [g.cells]))(i:H.get 6=some (Dj g))(h:H.get 7=some (ue g))(f:∀j,j<S.length->H.get (aW fA j)=some (bV (aK S j))) :
 ∀j o,(HL g S).get j=some o->H.get j=some o:=by
 intro j o e;rw[Tr.get] at e;cases c:ble fA j && blt j (fA+bY) with
 | true =>
   rw[c] at e;simp only[zbN] at e;simp only[zbe] at c;have l:=zbb c.1
   by_cases d:j - fA<S.length
   . rw [jy d] at e
     have:=f _ d;rw[show aW fA (j - fA)=j by unfold aW;omega] at this
     rw[this];exact e
   . rw[nc] at e;rw[dif_neg d] at e;cases e
 | false =>
   rw[c] at e;simp only[zb0] at e;rw[Tr.get] at e;cases b:beq j 7 with
   | true=>rw[b] at e;rw[zbl b,h];exact e
   | false =>
     rw[b] at e;simp only[zb0] at e;rw[Tr.get] at e;cases b:beq j 6 with
     | true=>rw[b] at e;rw[zbl b,i];exact e
     | false =>
       rw[b] at e;simp only[zb0] at e;rw[Tr.get] at e;cases b:beq j 0 with
       | true=>rw[b] at e;rw[zbl b,h0];exact e
       | false=>rw[b] at e;cases e
theorem SQ {A i n:Nat}{v:Option an}{t:aj}{o:Option an}(hi:i<bY)(h:blt n A=true)(e:t.get n=o):(Tr.put (aW A i) v t).get n=o:=by
 have h:=zbb h;have:beq n (aW A i)=false:=by
  cases e:beq n _ with
  | false=>rfl
  | true=>have:=zbl e;unfold aW at *;omega
 rw[Tr.get,this];exact e
theorem SP {A i:Nat}{o:an}{t:aj}:(Tr.put (aW A i) (some o) t).get (aW A i)=some o:=by
 rw[Tr.get,zcK _];rfl
theorem Hp {A i j:Nat}{v:Option an}{t:aj}{o:Option an}(h:j≠i)(e:t.get (aW A j)=o):(Tr.put (aW A i) v t).get (aW A j)=o:=by
 have:beq (aW A j) (aW A i)=false:=by
  cases e:beq _ _ with
  | false=>rfl
  | true=>have:=zbl e;unfold aW at *;omega
 rw[Tr.get,this];exact e
theorem zB {i:Ins}(h:i.l.l.length≤40):(aQ i).length≤42:=by
 rw[show aQ i=(if hasB _ _=true∧i.a≠-1 then [i.a] else [])++(if hasB _ _=true∧i.b≠-1 then [i.b] else [])++(if hasB _ _=true then i.l.l else []) by with_unfolding_all rfl]
 (repeat' split)<;>simp<;>omega
theorem rF {p:Prop}[Decidable p](h:p):(!decide p)=false:=by simp[h]
theorem rE {p:Prop}[Decidable p](h:¬p):(!decide p)=true:=by simp[h]
theorem qq {a b:List aA}{ρ:Nat->Nat}(h:b=a):bV a=(bV b).cp ρ:=by subst h;exact mu
theorem C_ {z:List aA}{l:List Int}:gh z (l.take 0)=z:=by with_unfolding_all rfl
theorem Ju {S:List (List aA)}{z:List aA}{l:List Int}:eR S z (l.take 0)=z:=by with_unfolding_all rfl
theorem vW {g:Gr}(a:cN g){k j:Nat}(h:j<(aY g k).length):aZ ((aY g k)[j]) (g.ins.l.length+1)=true:=by
 have:=vZ a _ (za9 h);simp[hY];omega
theorem oC {g:Gr}(w:cN g){S:List (List aA)}(d:ShS g S){k j:Nat}(u:k≤g.ins.l.length)(z:bY=1048576){b:Bool}{H':aj}{n M:Nat}(v:(aY g k).length≤j)
 (r:(!decide (cy (aK S k) (eR S (ff g S k) ((aY g k).take j))=aK S k))=b)(t:n≤M)
 (c:∃H:aj,H' = .put (aW fA k) (some (bV (cy (aK S k) (eR S (ff g S k) ((aY g k).take j))))) (.fx fA bY (di S) H)∧(H.get 0,H.get 6,H.get 7)=(some (.arr 3 [g.cells]),some (Dj g),some (ue g))) :
 AE.ret (.bool b)=AE.ret (.bool (!decide (cy (aK S k) (ia g S k)=aK S k)))∧n≤M∧∀j o,(HL g (eX g S k)).get j=some o->H'.get j=some o:=by
 obtain⟨H,c,q⟩:=c;rw[Wq v] at r c;simp only[zdb] at q;obtain⟨f,m,h⟩:=q;have s:=w.eT;have x:fA=1000:=rfl;have p:∀n,n<1000->H'.get n=H.get n:=fun n t=>by
  rw[c];refine SQ aa (zbs aa) ?_;rw[Tr.get,show ble fA n=false from ?_]
  . rfl
  . cases e : ble fA n with
    | false=>rfl
    | true=>have:=zbb e;omega
 refine⟨by rw[r],t,NY (S:=eX g S k) (by rw[eX,zbP,d.len];omega) ((p 0 ab).trans f) ((p 6 ab).trans m) ((p 7 ab).trans h) (fun i y=>?_)⟩
 rw[eX,zbP,d.len] at y;rw[row_step d u,c]
 by_cases a:i=k
 . subst a;rw[if_pos rfl];exact SP
 . rw [if_neg a]
   exact Hp a ((ke aa).trans (jy (by rw[d.len];omega)))
theorem Vp (g:Gr)(a:cN g)(S:List (List aA))(hs:ShS g S)(k:Nat)(e:k≤g.ins.l.length):cM 80 [i64 k,.ptr 0 0 0,.ptr 7 0 0] (HL g S) 5000000 (fun A H' n=>A = .ret (.bool (!decide (cy (aK S k) (ia g S k)=aK S k)))∧n≤5500000∧∀j o,(HL g (eX g S k)).get j=some o->H'.get j=some o):=by
 refine zd func80 ?_;have D:=g.ins.h;have m:bY=1048576:=rfl;have w:=a.eT;have p:=a.ah;have b:=qp a;have z:=mh a;have C:=hs.len;have u:wr .i64 ((k:Int)+1)=((k+1:Nat):Int):=by rw[aE aa aa];omega
 have q:=@pd (cn g);have B:=OD a (k:=k);have f:∀t∈aY g k,t=(t.toNat:Int):=fun t v=>by have:=vZ a t v;omega
 have hat2:∀t∈aY g k,t.toNat<g.ins.l.length+1:=fun t v=>by have:=vZ a t v;omega
 refine zk ?_
 repeat' ((first|(refine zp ?_ ?_<;>intro h)|refine az.mk _ (bO aa) ?_|(refine DC.pure rfl (wV (g.ins.l[k]'aa)) ?_;rintro _ (⟨rfl,s⟩|⟨rfl,s⟩))|(refine DC.pure rfl (oY (g.ins.l[k]'aa)) ?_;rintro _ rfl)|(refine DC.pure rfl (zA (g.ins.l[k]'aa) (a.fH _ (za9 _))) ?_;rintro _ rfl)|(refine DC.pure rfl (vX g a k e) ?_;rintro _ rfl)|refine DC.new rfl (CG g.ah p) DA rfl ?_|refine bR (mw u aa) ?_|(refine DC.nh (k:=5000005) (l:=aW fA (k+1)) (tV (gj (cn g)) (aK S (k+1)) q (eK hs aa) b) rfl rfl (nz aa rfl) rfl vy cU cU ?_;rintro _ H' _ ⟨rfl,c,d⟩;refine⟨rfl,_,c,d,cU,?_⟩)|(refine DC.ng (k:=5000005) (Ri (cy (gj (cn g)) (aK S (k+1))) (by rw[qx (by rw[q,eK hs aa]),q]) (aH (g.ins.l[k]'aa)) ⟨aa,by have:=a.gx _ (za9 (by omega:k<g.ins.l.length));omega⟩ b) rfl rfl rfl cU ?_;rintro _ H' _ ⟨rfl,c⟩;refine⟨rfl,_,c,cU,?_⟩))<;>refine zk ?_)
 . have hlt : k < g.ins.l.length := aa
   have r:=zB (a.fH _ (za9 hlt));refine DW.jQ aC aD [0,1,2,4,5,42,43] [5000005] 10000 fA (fun i:{i:Nat // i≤(aQ (g.ins.l[k]'aa)).length}=>[(44,i64 i.1)]) (fun i=>[(5000005,bV (gh (f_ g S k) ((aQ (g.ins.l[k]'aa)).take i.1)))]) (fun _=>di S) [] (fun i=>(aQ (g.ins.l[k]'aa)).length+1 - i.1) (⟨0,zbq _⟩) ?_
   conv=>whnf
   refine⟨⟨_,df.inner rfl rfl fk (by(repeat' (first|exact jJ|(refine jI (x:=?_) ?_ ?_ ?_ ?_ ?_ ?_;rotate_left;exact rfl;exact rfl;exact rfl;(first|(refine mr ?_ ?_<;>first|rfl|omega)|(refine qq ?_;exact(C_).trans (Ws hlt s h))|rfl);(first|exact jR|(refine lI ?_ ?_<;>first|rfl|omega)|rfl))))) rfl im rfl⟩,fun i=>?_⟩
   refine zg ?_
   repeat' ((first|(refine zp ?_ ?_<;>intro h)|(refine DC.pure rfl (vX g a k e) ?_;rintro _ rfl)|(refine DC.ng (k:=5000005) (u0 (gh (f_ g S k) ((aQ (g.ins.l[k]'aa)).take i.1)) (by rw[yn,sy hs]) ((aQ (g.ins.l[k]'aa))[i.1]'aa) ⟨by have:=a.jm _ (za9 hlt) _ (za9 (by omega:i.1<(aQ (g.ins.l[k]'aa)).length));omega,by have:=a.jm _ (za9 hlt) _ (za9 (by omega:i.1<(aQ (g.ins.l[k]'aa)).length));omega⟩ b) rfl rfl rfl cU ?_;rintro _ H' _ ⟨rfl,c⟩;refine⟨rfl,_,c,cU,?_⟩))<;>refine zg ?_)
   all_goals first
    | (have hi : i.1 < (aQ (g.ins.l[k]'aa)).length := aa
       refine⟨⟨i.1+1,hi⟩,_,df.inner rfl rfl fk Ez rfl im rfl,rfl,?_⟩;dsimp only;omega)
    | skip
   refine DW.jQ aC aD [0,2,4,5,54,55] [5000005] 10000 fA (fun j:{j:Nat // j≤(aY g k).length}=>[(56,i64 j.1)]) (fun j=>[(5000005,bV (eR S (ff g S k) ((aY g k).take j.1)))]) (fun _=>di S) [] (fun j=>(aY g k).length+1 - j.1) (⟨0,zbq _⟩) ?_
   conv=>whnf
   refine⟨⟨_,df.inner rfl rfl fk Ey rfl im rfl⟩,fun j=>?_⟩
   refine zk ?_
   repeat' ((first|refine Rq.mk (vW a aa) ?_|(refine zp ?_ ?_<;>intro h)|refine az.mk _ (bO aa) ?_|refine bR (mw (f _ (za9 (by omega:j.1<(aY g k).length))) (hat2 _ (za9 (by omega:j.1<(aY g k).length)))) ?_|refine bR (mw (k:=k) rfl aa) ?_|(refine DC.nh (k:=5000005) (l:=aW fA ((aY g k)[j.1]'aa).toNat) (tV (eR S (ff g S k) ((aY g k).take j.1)) (aK S ((aY g k)[j.1]'aa).toNat) (oL a hs) (eK hs ik) b) rfl rfl (nz ik rfl) rfl zT cU cU ?_;rintro _ H' _ ⟨rfl,c,d⟩;refine⟨rfl,_,c,d,cU,?_⟩)|(refine DC.nh (k:=aW fA k) (l:=5000005) (tW (aK S k) (eR S (ff g S k) ((aY g k).take j.1)) (eK hs e) (oL a hs) b) rfl rfl (Ne.symm (nz aa rfl)) vy rfl cU cU ?_;rintro _ H' _ ⟨rfl,c,d⟩;refine⟨rfl,_,c,d,cU,?_⟩))<;>refine zk ?_)
   all_goals first
    | (have hj : j.1 < (aY g k).length := aa
       refine⟨⟨j.1+1,hj⟩,_,df.inner rfl rfl fk zJ rfl im rfl,rfl,?_⟩;dsimp only;omega)
    | (refine oC a hs e m (j:=j.1) aa (rF ?_) ?_ ?_;exact h;exact zbb rfl;exact⟨_,rfl,rfl⟩)
    | (refine oC a hs e m (j:=j.1) aa (rE ?_) ?_ ?_;exact h;exact zbb rfl;exact⟨_,rfl,rfl⟩)
 . have hlt : k < g.ins.l.length := aa
   have r:=zB (a.fH _ (za9 hlt));refine DW.jQ aC aD [0,1,2,4,5,42,43] [5000005] 10000 fA (fun i:{i:Nat // i≤(aQ (g.ins.l[k]'aa)).length}=>[(44,i64 i.1)]) (fun i=>[(5000005,bV (gh (f_ g S k) ((aQ (g.ins.l[k]'aa)).take i.1)))]) (fun _=>di S) [] (fun i=>(aQ (g.ins.l[k]'aa)).length+1 - i.1) (⟨0,zbq _⟩) ?_
   conv=>whnf
   refine⟨⟨_,df.inner rfl rfl fk (by(repeat' (first|exact jJ|(refine jI (x:=?_) ?_ ?_ ?_ ?_ ?_ ?_;rotate_left;exact rfl;exact rfl;exact rfl;(first|(refine mr ?_ ?_<;>first|rfl|omega)|(refine qq ?_;exact(C_).trans (Wt hlt s (Int.not_le.2 h)))|rfl);(first|exact jR|(refine lI ?_ ?_<;>first|rfl|omega)|rfl))))) rfl im rfl⟩,fun i=>?_⟩
   refine zg ?_
   repeat' ((first|(refine zp ?_ ?_<;>intro h)|(refine DC.pure rfl (vX g a k e) ?_;rintro _ rfl)|(refine DC.ng (k:=5000005) (u0 (gh (f_ g S k) ((aQ (g.ins.l[k]'aa)).take i.1)) (by rw[yn,sy hs]) ((aQ (g.ins.l[k]'aa))[i.1]'aa) ⟨by have:=a.jm _ (za9 hlt) _ (za9 (by omega:i.1<(aQ (g.ins.l[k]'aa)).length));omega,by have:=a.jm _ (za9 hlt) _ (za9 (by omega:i.1<(aQ (g.ins.l[k]'aa)).length));omega⟩ b) rfl rfl rfl cU ?_;rintro _ H' _ ⟨rfl,c⟩;refine⟨rfl,_,c,cU,?_⟩))<;>refine zg ?_)
   all_goals first
    | (have hi : i.1 < (aQ (g.ins.l[k]'aa)).length := aa
       refine⟨⟨i.1+1,hi⟩,_,df.inner rfl rfl fk Ez rfl im rfl,rfl,?_⟩;dsimp only;omega)
    | skip
   refine DW.jQ aC aD [0,2,4,5,54,55] [5000005] 10000 fA (fun j:{j:Nat // j≤(aY g k).length}=>[(56,i64 j.1)]) (fun j=>[(5000005,bV (eR S (ff g S k) ((aY g k).take j.1)))]) (fun _=>di S) [] (fun j=>(aY g k).length+1 - j.1) (⟨0,zbq _⟩) ?_
   conv=>whnf
   refine⟨⟨_,df.inner rfl rfl fk Ey rfl im rfl⟩,fun j=>?_⟩
   refine zk ?_
   repeat' ((first|refine Rq.mk (vW a aa) ?_|(refine zp ?_ ?_<;>intro h)|refine az.mk _ (bO aa) ?_|refine bR (mw (f _ (za9 (by omega:j.1<(aY g k).length))) (hat2 _ (za9 (by omega:j.1<(aY g k).length)))) ?_|refine bR (mw (k:=k) rfl aa) ?_|(refine DC.nh (k:=5000005) (l:=aW fA ((aY g k)[j.1]'aa).toNat) (tV (eR S (ff g S k) ((aY g k).take j.1)) (aK S ((aY g k)[j.1]'aa).toNat) (oL a hs) (eK hs ik) b) rfl rfl (nz ik rfl) rfl zT cU cU ?_;rintro _ H' _ ⟨rfl,c,d⟩;refine⟨rfl,_,c,d,cU,?_⟩)|(refine DC.nh (k:=aW fA k) (l:=5000005) (tW (aK S k) (eR S (ff g S k) ((aY g k).take j.1)) (eK hs e) (oL a hs) b) rfl rfl (Ne.symm (nz aa rfl)) vy rfl cU cU ?_;rintro _ H' _ ⟨rfl,c,d⟩;refine⟨rfl,_,c,d,cU,?_⟩))<;>refine zk ?_)
   all_goals first
    | (have hj : j.1 < (aY g k).length := aa
       refine⟨⟨j.1+1,hj⟩,_,df.inner rfl rfl fk zJ rfl im rfl,rfl,?_⟩;dsimp only;omega)
    | (refine oC a hs e m (j:=j.1) aa (rF ?_) ?_ ?_;exact h;exact zbb rfl;exact⟨_,rfl,rfl⟩)
    | (refine oC a hs e m (j:=j.1) aa (rE ?_) ?_ ?_;exact h;exact zbb rfl;exact⟨_,rfl,rfl⟩)
 . have hlt : k < g.ins.l.length := aa
   have r:=zB (a.fH _ (za9 hlt));refine DW.jQ aC aD [0,1,2,4,5,42,43] [5000005] 10000 fA (fun i:{i:Nat // i≤(aQ (g.ins.l[k]'aa)).length}=>[(44,i64 i.1)]) (fun i=>[(5000005,bV (gh (f_ g S k) ((aQ (g.ins.l[k]'aa)).take i.1)))]) (fun _=>di S) [] (fun i=>(aQ (g.ins.l[k]'aa)).length+1 - i.1) (⟨0,zbq _⟩) ?_
   conv=>whnf
   refine⟨⟨_,df.inner rfl rfl fk (by(repeat' (first|exact jJ|(refine jI (x:=?_) ?_ ?_ ?_ ?_ ?_ ?_;rotate_left;exact rfl;exact rfl;exact rfl;(first|(refine mr ?_ ?_<;>first|rfl|omega)|(refine qq ?_;exact(C_).trans (Wu hlt s))|rfl);(first|exact jR|(refine lI ?_ ?_<;>first|rfl|omega)|rfl))))) rfl im rfl⟩,fun i=>?_⟩
   refine zg ?_
   repeat' ((first|(refine zp ?_ ?_<;>intro h)|(refine DC.pure rfl (vX g a k e) ?_;rintro _ rfl)|(refine DC.ng (k:=5000005) (u0 (gh (f_ g S k) ((aQ (g.ins.l[k]'aa)).take i.1)) (by rw[yn,sy hs]) ((aQ (g.ins.l[k]'aa))[i.1]'aa) ⟨by have:=a.jm _ (za9 hlt) _ (za9 (by omega:i.1<(aQ (g.ins.l[k]'aa)).length));omega,by have:=a.jm _ (za9 hlt) _ (za9 (by omega:i.1<(aQ (g.ins.l[k]'aa)).length));omega⟩ b) rfl rfl rfl cU ?_;rintro _ H' _ ⟨rfl,c⟩;refine⟨rfl,_,c,cU,?_⟩))<;>refine zg ?_)
   all_goals first
    | (have hi : i.1 < (aQ (g.ins.l[k]'aa)).length := aa
       refine⟨⟨i.1+1,hi⟩,_,df.inner rfl rfl fk Ez rfl im rfl,rfl,?_⟩;dsimp only;omega)
    | skip
   refine DW.jQ aC aD [0,2,4,5,54,55] [5000005] 10000 fA (fun j:{j:Nat // j≤(aY g k).length}=>[(56,i64 j.1)]) (fun j=>[(5000005,bV (eR S (ff g S k) ((aY g k).take j.1)))]) (fun _=>di S) [] (fun j=>(aY g k).length+1 - j.1) (⟨0,zbq _⟩) ?_
   conv=>whnf
   refine⟨⟨_,df.inner rfl rfl fk Ey rfl im rfl⟩,fun j=>?_⟩
   refine zk ?_
   repeat' ((first|refine Rq.mk (vW a aa) ?_|(refine zp ?_ ?_<;>intro h)|refine az.mk _ (bO aa) ?_|refine bR (mw (f _ (za9 (by omega:j.1<(aY g k).length))) (hat2 _ (za9 (by omega:j.1<(aY g k).length)))) ?_|refine bR (mw (k:=k) rfl aa) ?_|(refine DC.nh (k:=5000005) (l:=aW fA ((aY g k)[j.1]'aa).toNat) (tV (eR S (ff g S k) ((aY g k).take j.1)) (aK S ((aY g k)[j.1]'aa).toNat) (oL a hs) (eK hs ik) b) rfl rfl (nz ik rfl) rfl zT cU cU ?_;rintro _ H' _ ⟨rfl,c,d⟩;refine⟨rfl,_,c,d,cU,?_⟩)|(refine DC.nh (k:=aW fA k) (l:=5000005) (tW (aK S k) (eR S (ff g S k) ((aY g k).take j.1)) (eK hs e) (oL a hs) b) rfl rfl (Ne.symm (nz aa rfl)) vy rfl cU cU ?_;rintro _ H' _ ⟨rfl,c,d⟩;refine⟨rfl,_,c,d,cU,?_⟩))<;>refine zk ?_)
   all_goals first
    | (have hj : j.1 < (aY g k).length := aa
       refine⟨⟨j.1+1,hj⟩,_,df.inner rfl rfl fk zJ rfl im rfl,rfl,?_⟩;dsimp only;omega)
    | (refine oC a hs e m (j:=j.1) aa (rF ?_) ?_ ?_;exact h;exact zbb rfl;exact⟨_,rfl,rfl⟩)
    | (refine oC a hs e m (j:=j.1) aa (rE ?_) ?_ ?_;exact h;exact zbb rfl;exact⟨_,rfl,rfl⟩)
 . refine DW.jQ aC aD [0, 2, 4, 5, 54, 55] [5000005] 10000 fA (fun j : {j : Nat // j ≤ (aY g k).length} => [(56, i64 j.1)]) (fun j => [(5000005, bV (eR S (ff g S k) ((aY g k).take j.1)))]) (fun _ => di S) [] (fun j => (aY g k).length + 1 - j.1) (⟨0, zbq _⟩) ?_
   conv=>whnf
   refine⟨⟨_,df.inner rfl rfl fk (by(repeat' (first|exact jJ|(refine jI (x:=?_) ?_ ?_ ?_ ?_ ?_ ?_;rotate_left;exact rfl;exact rfl;exact rfl;(first|(refine mr ?_ ?_<;>first|rfl|omega)|(refine qq ?_;exact(Ju).trans (Wo aa))|rfl);(first|exact jR|(refine lI ?_ ?_<;>first|rfl|omega)|rfl))))) rfl im rfl⟩,fun j=>?_⟩
   refine zk ?_
   repeat' ((first|refine Rq.mk (vW a aa) ?_|(refine zp ?_ ?_<;>intro h)|refine az.mk _ (bO aa) ?_|refine bR (mw (f _ (za9 (by omega:j.1<(aY g k).length))) (hat2 _ (za9 (by omega:j.1<(aY g k).length)))) ?_|refine bR (mw (k:=k) rfl aa) ?_|(refine DC.nh (k:=5000005) (l:=aW fA ((aY g k)[j.1]'aa).toNat) (tV (eR S (ff g S k) ((aY g k).take j.1)) (aK S ((aY g k)[j.1]'aa).toNat) (oL a hs) (eK hs ik) b) rfl rfl (nz ik rfl) rfl zT cU cU ?_;rintro _ H' _ ⟨rfl,c,d⟩;refine⟨rfl,_,c,d,cU,?_⟩)|(refine DC.nh (k:=aW fA k) (l:=5000005) (tW (aK S k) (eR S (ff g S k) ((aY g k).take j.1)) (eK hs e) (oL a hs) b) rfl rfl (Ne.symm (nz aa rfl)) vy rfl cU cU ?_;rintro _ H' _ ⟨rfl,c,d⟩;refine⟨rfl,_,c,d,cU,?_⟩))<;>refine zk ?_)
   all_goals first
    | (have hj : j.1 < (aY g k).length := aa
       refine⟨⟨j.1+1,hj⟩,_,df.inner rfl rfl fk zJ rfl im rfl,rfl,?_⟩;dsimp only;omega)
    | (refine oC a hs e m (j:=j.1) aa (rF ?_) ?_ ?_;exact h;exact zbb rfl;exact⟨_,rfl,rfl⟩)
    | (refine oC a hs e m (j:=j.1) aa (rE ?_) ?_ ?_;exact h;exact zbb rfl;exact⟨_,rfl,rfl⟩)
theorem Iw (g:Gr)(h:cN g)(S:List (List aA))(d:ShS g S)(a:Int)(k:Nat)(e:a=(k:Int))(f:k≤g.ins.l.length):cM 80 [i64 a,.ptr 0 0 0,.ptr 7 0 0] (HL g S) 5000000 (fun b H' n=>b = .ret (.bool (!decide (cy (aK S k) (ia g S k)=aK S k)))∧n=5500000∧H'=HL g (eX g S k)):=by
 subst e;exact(Vp g h S d k f).forget (by rintro b H' n ⟨i,j,c⟩;exact⟨_,5500000,j,c,i,rfl,rfl⟩)
end Go.Ago
end
section
namespace Go.Ago
open Go.Proofs List Nat Tryz
section
variable {P:Program} {E:Env}
def tM (n:Nat)(o:an):Prop:=∃b a,o = .arr b a∧a.map (List.map (AV.r1 fun k=>k))=a∧(a.all fun e=>e.all (AV.l1 n))=true
theorem tM.rel {n:Nat}{o:an}(q:tM n o){c c':Ctx}{w:World}{B:fo}(hi:c'.aq=c.aq)(m:∀k,k<n->c'.f k=c.f k)(h:fM c w B o):fM c' w B o:=by
 obtain⟨H,D,rfl,F,p⟩:=q;obtain⟨b,t,r,s,u,y,g⟩:=h;refine⟨b,t,r,s,u,y,fun i e a=>⟨(g i e a).1,fun j x d=>?_⟩⟩
 obtain⟨v,z,A⟩:=(g i e a).2 j x d;have G:e.map (AV.r1 fun k=>k)=e:=by
  have C:(D.map (List.map (AV.r1 fun k=>k)))[i]? = some (e.map (AV.r1 fun k=>k)):=by rw[zbC,a];rfl
  grind
 have l:x.r1 (fun k=>k)=x:=by
  have C:(e.map (AV.r1 fun k=>k))[j]? = some (x.r1 fun k=>k):=by rw[zbC,d];rfl
  grind
 exact⟨v,z,sK (ρ:=fun k=>k) (n:=n) hi m (zbr.1 (zbr.1 p e (zby a)) x (zby d)) (by rw[l];exact A)⟩
theorem DC.later {g:FuncId}{args:List AV}{H:aj}{nx m:Nat}{R R':AE->aj->Nat->Prop}(h:DC P E g args H nx R)(ha:args.map (AV.r2 fun k=>k)=args)(hl:args.all (AV.l2 nx)=true)
 (G:∀k o,H.get k=some o->k<nx∧tM nx o)(hq:∀D H' n,R D H' n->D.flat=true∧(∀k o,H'.get k=some o->k<nx∧tM nx o)∧R' D H' m):DC P E g args H m R':=by
 obtain⟨D,H',nx',⟨h0,K⟩,Q⟩:=h;obtain⟨q1,F,q3⟩:=hq _ _ _ Q;refine⟨D,H',m,⟨h0,fun c w vs s hf x=>?_⟩,q3⟩
 have d:∀k,k<nx->(⟨fun k=>if k<nx then c.f k else none,c.aq⟩:Ctx).f k=c.f k:=fun k l=>if_pos l
 have X:aN E.bS ⟨fun k=>if k<nx then c.f k else none,c.aq⟩ w H:=by
  refine⟨s.bN,fun k B e=>?_,fun k o e=>?_,fun k z o U B I e A f t i=>?_,fun g J e=>?_⟩
  . by_cases l : k < nx
    . rw[d k l] at e;exact s.bW _ B e
    . simp[l] at e
  . obtain ⟨L, M⟩ := G k o e
    obtain⟨B,N,O,S⟩:=s.obj _ _ e;exact⟨B,(d k L).trans N,O,M.rel (c:=c) rfl d S⟩
  . rw [d k (G k o e).1] at f
    rw[d z (G z U A).1] at t;exact s.inj _ _ _ _ B I e A f t i
  . have := s.bS g J e
    cases this with
    | bm K Q h3 h4=>exact .bm K Q h3 h4
 have T:aP ⟨fun k=>if k<nx then c.f k else none,c.aq⟩ w args vs:=by
  rw[<-ha] at x;exact qB (c:=c) (f:=AV.r2 fun k=>k) (fun y v a b=>sL (c:=c) (c':=⟨fun k=>if k<nx then c.f k else none,c.aq⟩) (ρ:=fun k=>k) (n:=nx) rfl d a b) hl x.1 x.2
 have q:∀b,Own ⟨fun k=>if k<nx then c.f k else none,c.aq⟩ H b->Own c H b:=by
  rintro b ⟨k,o,B,l,p,rfl⟩
  rw[d k (G k o l).1] at p;exact⟨k,o,B,l,p,rfl⟩
 refine(K _ w vs X (fun k l=>if_neg (Nat.not_lt.2 l)) T).mono ?_
 rintro e w' ⟨V,_,_,_,r,u,_,_,Y,rfl,rfl,rfl⟩
 have C:∀k,k<nx->c.f k=V.f k:=fun k l=>((r.f k l).trans (d k l)).symm
 have Z:∀b,c.aq b->w'.heap[b]? = w.heap[b]?:=fun b i=>r.other b (s.bN b i) fun ho=>s.kQ i (q b ho)
 refine⟨⟨c.f,V.aq⟩,_,m,_,⟨fun _ _=>rfl,fun b i=>r.aq b i,r.os,r.tape,r.output,r.size,fun b i hn=>r.other b i fun ho=>hn (q b ho),fun b i=>?_,fun b i=>?_⟩,
  ⟨u.bN,fun k B e=>zbJ (s.bW k B e) r.size,fun j o e=>?_,fun k z o U B I e A f t i=>?_,fun g J e=>(s.bS g J e).mono ⟨fun _ _ e=>e,fun b i=>r.aq b i⟩ Z⟩,zbm _,hf,w8 Y q1,rfl,rfl,rfl⟩
 . rcases r.ez b i with g | g | g
   . exact .inl g
   . exact .inr (.inl (q b g))
   . exact .inr (.inr g)
 . obtain ⟨k, o, B, l, p, rfl⟩ := i
   have p:c.f k=some B:=p;rw[C k (F k o l).1] at p;rcases r.own B.b ⟨k,o,B,l,p,rfl⟩ with g|g
   . exact .inl (q _ g)
   . exact .inr g
 . obtain ⟨L, M⟩ := F j o e
   obtain⟨B,N,O,S⟩:=u.obj _ _ e;exact⟨B,(C j L).trans N,O,M.rel (c:=V) rfl C S⟩
 . have f : c.f k = some B := f
   have t:c.f z=some I:=t;rw[C k (F k o e).1] at f;rw[C z (F z U A).1] at t;exact u.inj _ _ _ _ B I e A f t i
end
theorem EF {g:Gr}{S:List (List aA)}(d:g.ins.l.length+1≤1001):∀j o,(HL g S).get j=some o->j<5000000∧tM 5000000 o:=by
 intro j o e;rw[Tr.get] at e;cases c:ble fA j && blt j (fA+bY) with
 | true =>
   rw[c] at e;simp only[zbN] at e;simp only[zbe] at c;have f:=zbb c.2;have h:fA=1000:=rfl;have i:bY=1048576:=rfl;rw[nc] at e;split at e
   . cases e
     refine⟨aa,1,_,rfl,by simp[AV.r1,AV.ra,AV.r0,zcA],?_⟩
     exact jR (n:=5000000)
   . cases e
 | false =>
   rw[c] at e;simp only[zb0] at e;rw[Tr.get] at e;cases b:beq j 7 with
   | true=>rw[b] at e;cases e;rw[zbl b];exact⟨ab,1,_,rfl,rfl,rfl⟩
   | false =>
     rw[b] at e;simp only[zb0] at e;rw[Tr.get] at e;cases b:beq j 6 with
     | true =>
       rw[b] at e;cases e;rw[zbl b];exact⟨ab,1,_,rfl,by simp[ek,AV.r1,AV.ra,AV.r0,zcA],lI (m:=5000000) ab d⟩
     | false =>
       rw[b] at e;simp only[zb0] at e;rw[Tr.get] at e;cases b:beq j 0 with
       | true=>rw[b] at e;cases e;rw[zbl b];exact⟨ab,3,_,rfl,rfl,rfl⟩
       | false=>rw[b] at e;cases e
theorem Vq (g:Gr)(c:cN g)(S:List (List aA))(d:ShS g S)(a:Int)(k:Nat)(e:a=(k:Int))(f:k≤g.ins.l.length):cM 80 [i64 a,.ptr 0 0 0,.ptr 7 0 0] (HL g S) 8000000 (fun b H' n=>b = .ret (.bool (!decide (cy (aK S k) (ia g S k)=aK S k)))∧n=8500000∧H'=HL g (eX g S k)):=
 (((Iw g c S d a k e f).later (R' := fun b H' n => b = .ret _ ∧ n = 8000000 ∧ H' = HL g _) rfl rfl (EF (by have := c.eT; omega))
   (by rintro b H' n ⟨rfl,rfl,rfl⟩;exact⟨rfl,EF (by have:=c.eT;omega),rfl,rfl,rfl⟩)).raise (M:=8500000) (ag))
end Go.Ago
end
namespace Go.Ago
open Go.Proofs List Nat Tryz
attribute [local irreducible] bA bw aV bp bG wr aZ bF comp DC DP DW DV
attribute [local irreducible] dU bB eB iz cy gh eR f_ ff ia aW aY aQ di eX jS
structure pD (g:Gr) where
 S:List (List aA)
 sh:ShS g S
 lo:mL g S
def pD.step {g:Gr}(b:cN g)(x:pD g)(k:Nat)(a:k≤g.ins.l.length):pD g:=⟨eX g x.S k,x.sh.step b a,x.lo.step b x.sh a⟩
structure tQ (g:Gr)(S:List (List aA)) where
 m:Nat
 hm:m≤g.ins.l.length+1
 sat:∀k,m≤k->k≤g.ins.l.length->Sat g S k
structure j7 (g:Gr)(S:List (List aA)) where
 m:Nat
 hm:m≤g.ins.l.length
 x:pD g
 lt:jS x.S<jS S
theorem Vr (g:Gr)(e:cN g)(S:List (List aA))(b:ShS g S)(a:Int)(k:Nat)(f:a=(k:Int))(d:k≤g.ins.l.length):cM 80 [i64 a,.ptr 0 0 0,.ptr 7 0 0] (HL g S) 5000000
 (fun c H' n=>(c = .ret (.bool false)∧H'=HL g S∧n=5500000∧Sat g S k)∨(c = .ret (.bool true)∧H'=HL g (eX g S k)∧n=5500000∧¬Sat g S k)):=by
 refine(Iw g e S b a k f d).mono ?_
 rintro _ _ _ ⟨rfl,rfl,rfl⟩
 by_cases h:Sat g S k
 . exact .inl ⟨by rw[rF (show cy _ _=aK S k from h)],by rw[LJ b d h],rfl,h⟩
 exact .inr ⟨by rw[rE (show ¬cy _ _=aK S k from h)],rfl,rfl,h⟩
theorem Vs (g:Gr)(e:cN g)(S:List (List aA))(b:ShS g S)(a:Int)(k:Nat)(f:a=(k:Int))(d:k≤g.ins.l.length):cM 80 [i64 a,.ptr 0 0 0,.ptr 7 0 0] (HL g S) 8000000
 (fun c H' n=>(c = .ret (.bool false)∧H'=HL g S∧n=8500000∧Sat g S k)∨(c = .ret (.bool true)∧H'=HL g (eX g S k)∧n=8500000∧¬Sat g S k)):=by
 refine(Vq g e S b a k f d).mono ?_
 rintro _ _ _ ⟨rfl,rfl,rfl⟩
 by_cases h:Sat g S k
 . exact .inl ⟨by rw[rF (show cy _ _=aK S k from h)],by rw[LJ b d h],rfl,h⟩
 exact .inr ⟨by rw[rE (show ¬cy _ _=aK S k from h)],rfl,rfl,h⟩
def tQ.next {g:Gr}{S:List (List aA)}(y:tQ g S)(h:Sat g S (y.m - 1)):tQ g S:=
 ⟨y.m - 1,by have:=y.hm;omega,fun k c b=>by
  rcases zbI k y.m with a|a
  . grind
  . exact y.sat k a b⟩
def j7.skip {g:Gr}{S:List (List aA)}(z:j7 g S):j7 g S:=⟨z.m - 1,by have:=z.hm;omega,z.x,z.lt⟩
def j7.step {g:Gr}(b:cN g){S:List (List aA)}(z:j7 g S)(a:z.m - 1≤g.ins.l.length):j7 g S:=
 ⟨z.m - 1,by grind,z.x.step b (z.m - 1) a,Nat.lt_of_le_of_lt (IZ b z.x.sh a).1 z.lt⟩
def j7.first {g:Gr}(b:cN g)(x:pD g)(m:Nat)(a:m≤g.ins.l.length)(h:¬Sat g x.S m):j7 g x.S:=
 ⟨m,aa,x.step b m a,(IZ b x.sh a).2 h⟩
theorem Zg (g:Gr)(c:cN g)(q:pD g):cM 79 [.ay 6 0 (g.ins.l.length+1) 1,.fn (.func 80) [] [.ptr 0 0 0,.ptr 7 0 0]] (HL g q.S) 3000000 (fun ae H' n=>ae = .ret (.ao [])∧n≤16000000∧∃S,fD g S∧∀j o,(HL g S).get j=some o->H'.get j=some o):=by
 refine zd func79 ?_;have hil:=g.ins.h;have hF:bY=1048576:=rfl;have hfew:=c.eT;refine zg ?_
 repeat' (refine DW.scope aC aD ?_<;>refine zg ?_)
 refine DW.jQ aC aD [0,1] [] 1000000 fA (fun x:pD g=>[]) (fun x=>[]) (fun x=>di x.S) [] (fun x=>jS x.S) (q) ?_
 conv=>whnf
 refine⟨⟨_,df.inner rfl rfl fk lP rfl (by(intro j o hj hg0;(exact vw))) rfl⟩,fun x=>?_⟩
 conv=>whnf
 refine DW.jQ aC aD [0,1,5,6,7] [] 100000 fA (fun y:tQ g x.S=>[(4,i64 ((y.m:Int) - 1))]) (fun y=>[]) (fun y=>di x.S) [] (fun y=>y.m) (⟨g.ins.l.length+1,zbm _,fun k h1 h2=>aa⟩) ?_
 conv=>whnf
 refine⟨⟨_,df.inner rfl rfl fk lP rfl (by(intro j o hj hg0;(exact vw))) rfl⟩,fun y=>?_⟩
 refine zg ?_
 repeat' ((first|(refine zp ?_ ?_<;>intro h)|(refine DC.bump (m:=5000000) rfl ?_;refine(Vr g c x.S x.sh _ (y.m - 1) aa (by have:=y.hm;omega)).mono ?_;rintro _ _ _ (⟨rfl,rfl,rfl,a⟩|⟨rfl,rfl,rfl,a⟩)))<;>refine zg ?_)
 all_goals first
  | exact⟨rfl,zbb rfl,x.S,fD.mk' c x.sh x.lo (fun k hk=>y.sat k aa hk),fun j o h=>h⟩
  | (have f := y.hm
     obtain⟨e,d⟩:∃e:tQ g x.S,e.m=y.m - 1:=⟨y.next a,rfl⟩;refine⟨e,_,df.inner rfl rfl fk lP rfl im rfl,rfl,?_⟩;show e.m<y.m;omega)
  | skip
 have f:=y.hm;obtain⟨z0,hz0,p⟩:∃z:j7 g x.S,z.m=y.m - 1∧z.x.S=eX g x.S (y.m - 1):=⟨j7.first c x (y.m - 1) aa a,rfl,rfl⟩;refine DW.jQ aC aD [0,1,5,6,7,8,9,12,13,14,15,16] [] 100000 fA (fun z:j7 g x.S=>[(4,i64 ((z.m:Int) - 1))]) (fun z=>[]) (fun z=>di z.x.S) [] (fun z=>z.m) (z0) ?_
 conv=>whnf
 refine⟨⟨_,df.inner rfl rfl fk lP rfl (by(intro j o hj hg0;(try rw[p] at hg0);(exact vw))) rfl⟩,fun z=>?_⟩
 refine zg ?_
 repeat' ((first|(refine zp ?_ ?_<;>intro h)|(refine DC.bump (m:=8000000) rfl ?_;refine(Vs g c z.x.S z.x.sh _ (z.m - 1) aa (by have:=z.hm;omega)).mono ?_;rintro _ _ _ (⟨rfl,rfl,rfl,a⟩|⟨rfl,rfl,rfl,a⟩)))<;>refine zg ?_)
 all_goals have hzm:=z.hm
 all_goals first
  | (have i : Sat g z.x.S (z.m - 1) := a
     obtain⟨b,d,hy2⟩:∃b:j7 g x.S,b.m=z.m - 1∧b.x.S=z.x.S:=⟨z.skip,rfl,rfl⟩;refine⟨b,_,df.inner rfl rfl fk lP rfl vz rfl,rfl,?_⟩;show b.m<z.m;omega)
  | (have i : ¬ Sat g z.x.S (z.m - 1) := a
     obtain⟨b,d,hy2⟩:∃b:j7 g x.S,b.m=z.m - 1∧b.x.S=eX g z.x.S (z.m - 1):=⟨z.step c aa,rfl,rfl⟩;refine⟨b,_,df.inner rfl rfl fk lP rfl vz rfl,rfl,?_⟩;show b.m<z.m;omega)
  | (refine ⟨z.x, _, df.inner rfl rfl fk lP rfl im rfl, rfl, ?_⟩
     exact z.lt)
end Go.Ago
section
namespace Go.Ago
open Go.Proofs List Nat Tryz
attribute [local irreducible] bA bw aV bp bG wr aZ bF comp DC DP DW DV
attribute [local irreducible] dU bB eB iz cy gh eR f_ ff ia aW aY aQ di eX jS
theorem su {l l' a:Int}{b s:Nat}(h:l=l')(e:a=l')(h0:0≤l'∧l'≤1000000)(c:ble b 10000=true)(g:blt 0 s=true):(decide (0≤l) && decide (l≤a) && decide (a≤9223372036854775807) && decide ((b:Int) * a≤140737488355328) && blt 0 s)=true:=by
 subst e;have d:=zbb c;have f:b * a≤10000 * 1000000:=Int.mul_le_mul aa h0.2 h0.1 ab
 grind
def iJ (n a k:Nat):List (List AV):=(List.range n).map fun j=>if j<k then [AV.ay (aW fA j) 0 a 1] else [AV.ai]
theorem Kw {n a k:Nat}(h:n≤k):iJ n a k=ek n a:=by
 refine zbZ fun j b=>?_
 grind
theorem X8 {n a:Nat}{c:Nat}(h:c=n):replicate c [AV.ai]=iJ n a 0:=by
 subst h;unfold iJ;simp;rw[map_const',length_range]
theorem J7 {n d k m NEW:Nat}{l:List (Nat×Nat)}(f:ble m fA=true)(v:n≤1001)(r:k<n){i:Nat}(hi:i=k) :
 an.arr 1 ((iJ n d k).set i [AV.ay NEW 0 d 1])=(an.arr 1 (iJ n d (k+1))).cp (eC m fA (fun j=>bif beq j k then NEW else aW fA j) l):=by
 subst hi;have f:=zbb f;have w:fA=1000:=rfl;have s:bY=1048576:=rfl;show an.arr 1 _=an.arr 1 _
 congr 1
 unfold iJ;rw[zcz];refine zcx ag fun j p t=>?_
 have u:j<n:=by simpa using p
 have h:blt (fA+j) m=false:=by
  cases e:blt (fA+j) m with
  | false=>rfl
  | true=>have:=zbb e;omega
 have o:(ble fA (fA+j) && blt (fA+j) (fA+bY))=true:=by
  rw[zbs (zco _ _),show blt (fA+j) (fA+bY)=true from zbs aa];rfl
 have g:eC m fA (fun j=>bif beq j i then NEW else aW fA j) l (aW fA j)=bif beq j i then NEW else aW fA j:=by
  conv=>lhs;rw[HY]
  unfold eC;rw[h,o];simp[HY]
 by_cases b:j=i
 . subst b
   simp only[getElem_set_self,zcl,getElem_range,zcP,if_pos (lt_succ_self j),zcq,map_nil,AV.r1,AV.ra,AV.r0];rw[g,show beq j j=true from zcK j];rfl
 . have q:beq j i=false:=by
    cases e:beq j i with
    | false=>rfl
    | true=>exact absurd (zbl e) b
   rw[getElem_set_ne (Ne.symm b)];simp only[zcl,getElem_range,zcP]
   by_cases c:j<i
   . rw [if_pos c, if_pos aa]
     simp only[zcq,map_nil,AV.r1,AV.ra,AV.r0];rw[g,q];rfl
   . rw[if_neg c,if_neg aa];rfl
theorem xG {n c k m:Nat}(b:ble (fA+bY) m=true)(f:n≤1001):(an.arr 1 (iJ n c k)).lt m:=by
 have b:=zbb b;have g:bY=1048576:=rfl;show(List.all _ _)=true;unfold iJ;rw[all_map,zbr];intro j d;have:=zcf.1 d;have e:blt (aW fA j) m=true:=zbs (by unfold aW;omega)
 simp[zcP];split<;>simp[AV.l1,AV.la,AV.l0,e]
theorem Kt {n a c:Nat}{ρ:Nat->Nat}(h:c=n):an.arr 1 (replicate c [AV.ai])=(an.arr 1 (iJ n a 0)).cp ρ:=by
 rw[<-X8 h];show an.arr 1 _=an.arr 1 _;rw[map_replicate];rfl
theorem Ff {c n:Nat}{ρ:Nat->Nat}(h:c=n)(a:ρ 6=6):an.arr 1 [[AV.ay 6 0 c 1]]=(an.arr 1 [[AV.ay 6 0 n 1]]).cp ρ:=by
 subst h;simp[an.cp,AV.r1,AV.ra,AV.r0,a]
abbrev kp (g:Gr)(k:Nat):List (List aA):=replicate k (gj (cn g))
theorem Ka {g:Gr}{k j:Nat}(a:j≠k):di (kp g (k+1)) j=di (kp g k) j:=by
 rw[nc,nc]
 grind
theorem J_ {g:Gr}{k:Nat}{o:an}(h:di (kp g (k+1)) k=some o):o=bV (gj (cn g)):=by
 rw[jy ag] at h
 grind
theorem yx {g:Gr}{j:Nat}{o:an}(h:di (kp g 0) j=some o):False:=by
 rw[nc] at h;cases h
theorem Cx {α e c:Type}{f:e->Option c}{h:α->e}{k:α->c}:∀{l:List α},(∀x∈l,f (h x)=some (k x))->aM f (l.map h)=some (l.map k)
 | [],_=>rfl
 | x :: l, d => by
   have:=@Cx _ _ _ f h k l fun y g=>d y (zbO _ g)
   simp[aM,d x _,this]
theorem Y8 {g:Gr}{S:List (List aA)}(d:ShS g S)(r:g.ins.l.length≤1000):snap (HL g S) 20 (.ay 6 0 (g.ins.l.length+1) 1)=some (.ak 1 (S.map fun ws=>[gb ws])):=by
 have s:bY=1048576:=rfl;have h:(HL g S).get 6=some (.arr 1 (ek (g.ins.l.length+1) (cn g))):=rfl;have a:(ek (g.ins.l.length+1) (cn g)).length=g.ins.l.length+1:=by simp[ek]
 have i:List.take (g.ins.l.length+1) (List.drop 0 (ek (g.ins.l.length+1) (cn g)))=ek (g.ins.l.length+1) (cn g):=by rw[zcV];exact zbj aa
 have o:aM (aM (snap (HL g S) 19)) (ek (g.ins.l.length+1) (cn g))=some (S.map fun ws=>[gb ws]):=by
  have q:S.map (fun ws=>[gb ws])=(List.range (g.ins.l.length+1)).map fun j=>[gb (aK S j)]:=by
   refine zcx (by simp[d.len]) fun j p t=>?_
   have:j<S.length:=by simpa using p
   simp[aK,getD,this]
  rw[q];refine Cx fun j e=>?_
  have e:=zcf.1 e;have b:(HL g S).get (aW fA j)=some (bV (aK S j)):=(ke aa).trans (jy (by rw[d.len];omega))
  have:=fj (H:=HL g S) (k:=aW fA j) (n:=18) (f:=j1) (l:=aK S j) (m:=cn g) (sz:=1) (fun _=>rfl) b rfl (eK d aa).symm
  exact aJ this rfl
 exact oZ (n:=19) h (by rw[a];omega) (by rw[i];exact o)
theorem Kv {n a k:Nat}(h:k<n):(iJ n a k)[0+((k:Int)).toNat]? = some [AV.ai]:=by simp[iJ,h]
theorem Te {g:Gr}{k:Nat}(a:k=g.ins.l.length+1):∀j,(Tr.fx fA bY (di (kp g k)) (.put 7 (some (ue g)) (.put 6 (some (.arr 1 (iJ (g.ins.l.length+1) (cn g) k))) (.put 0 (some (.arr 3 [g.cells])) .nil)))).get j=(HL g (kp g (g.ins.l.length+1))).get j:=by
 subst a;rw[Kw (ag)];simp
theorem Zh (g:Gr)(c:cN g):cM 79 [.ay 6 0 (g.ins.l.length+1) 1,.fn (.func 80) [] [.ptr 0 0 0,.ptr 7 0 0]] (HL g (kp g (g.ins.l.length+1))) 3000000 (fun a H' n=>a = .ret (.ao [])∧n=16000000∧∃S,fD g S∧H'=HL g S):=
 (Zg g c ⟨_,ShS.zero,mL.zero⟩).forget (by rintro a H' n ⟨d,e,S,f,b⟩;exact⟨_,16000000,e,b,d,rfl,S,f,rfl⟩)
attribute [local irreducible] iJ ek
theorem Iy (g:Gr)(d:cN g):af 37 [g.av] (fun y=>∃S,y = .ret (.ak 1 (S.map fun ws=>[gb ws]))∧fD g S):=by
 refine zw func37 ?_;have u:=g.ins.h;have z:bY=1048576:=rfl;have q:=d.eT;have a:=d.ah;have n:wr .i64 ((g.ins.l.length:Int)+1)=(g.ins.l.length:Int)+1:=aE aa aa;have b:(wr .i64 (((g.ins.l.map Ins.cells).length:Int)+1)).toNat=g.ins.l.length+1:=by rw[zba,n];omega
 refine zg ?_
 repeat' ((refine Rq.mk (su (by simp only[zba];exact n) (by simp only[zba];exact n) aa ab rfl) ?_)<;>refine zg ?_)
 refine DW.jQ aC aD [1,2,3] [7,6] 2000000 fA (fun i:{i:Nat // i≤g.ins.l.length+1}=>[(12,i64 i.1),(11,i64 ((g.ins.l.length+1:Nat):Int))]) (fun i=>[(7,ue g),(6,.arr 1 (iJ (g.ins.l.length+1) (cn g) i.1))]) (fun i=>di (kp g i.1)) [] (fun i=>g.ins.l.length+2 - i.1) (⟨0,zbq _⟩) ?_
 conv=>whnf
 refine⟨⟨_,df.grow (k:=0) (NEW:=2000019) rfl rfl rfl rfl ?_ ?_ rfl (fun j o _ _ h=>(yx h).elim) (fun o h=>(yx h).elim) rfl⟩,fun i=>?_⟩
 . (repeat' (first|exact FQ|(refine FP (x:=?_) ?_ ?_ ?_ ?_;rotate_left;exact rfl;((conv=>rhs;whnf)<;>(first|(rw[b];done)|(refine JU (qC ?_);exact rfl)|rfl));(first|(refine JV ?_;exact rfl)|rfl))))
 . (repeat' (first|exact jJ|(refine jI (x:=?_) ?_ ?_ ?_ ?_ ?_ ?_;rotate_left;exact rfl;exact rfl;exact rfl;(first|(refine Kt ?_;exact b)|(refine Ff ?_ (qC ?_);(exact b);exact rfl)|rfl);(first|(refine xG ?_ ?_<;>first|rfl|omega)|rfl))))
 refine zk ?_
 repeat' ((first|(refine zp ?_ ?_<;>intro h)|refine DV.new rfl (CG g.ah a) DA rfl ?_|refine bR (Kv aa) ?_|(refine DC.bump (m:=3000000) rfl ?_;refine DC.heap (Te (k:=i.1) aa) ?_;refine(Zh g d).mono ?_;rintro _ _ _ ⟨rfl,rfl,S,s,rfl⟩))<;>refine zk ?_)
 . have w : i.1 < g.ins.l.length + 1 := aa
   refine⟨⟨i.1+1,w⟩,_,df.grow (k:=i.1) (NEW:=2000019) rfl rfl rfl rfl ?_ ?_ rfl ?_ ?_ rfl,rfl,?_⟩
   . (exact zE)
   . (repeat' (first|exact jJ|(refine jI (x:=?_) ?_ ?_ ?_ ?_ ?_ ?_;rotate_left;exact rfl;exact rfl;exact rfl;(first|(refine Ff ?_ (qC ?_);(rfl);exact rfl)|(refine J7 ?_ ?_ ?_ ?_;exact rfl;omega;(show i.1<_;omega);simp)|rfl);(first|(refine xG ?_ ?_<;>first|rfl|omega)|rfl))))
   . intro j o t f e
     have c:di (kp g (i.1+1)) j=some o:=e;rw[Ka f] at c
     (repeat' first|exact xj t c (wW c)|(refine BV t ?_ ?_;(rfl))|(refine BW ?_ ?_;(rfl)))
   . intro o v
     obtain rfl:=J_ v;exact rW (o:=bV (gj (cn g))) rfl ⟨mu,jR⟩
   . dsimp only;omega
 . generalize p : snap _ 20 _ = A
   obtain rfl:=p.symm.trans (Y8 s.toShS aa)
   conv=>whnf
   exact⟨S,rfl,s⟩
end Go.Ago
end
