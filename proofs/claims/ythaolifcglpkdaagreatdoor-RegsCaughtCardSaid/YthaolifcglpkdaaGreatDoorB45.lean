/-
  Part B45: lemmas, each with its own conditions.
-/
import Derived.Test.YthaolifcglpkdaaGreatDoorB43
set_option maxRecDepth 100000
set_option maxHeartbeats 0
set_option linter.all false
namespace Go.Ago
open Go.Proofs List Nat Tryz
attribute [local irreducible] bA bw aV bp bG wr aZ bF comp DC DP DW DV
attribute [local irreducible] bM bP aY aH aQ aI.has Hd.of
attribute [local irreducible] du ct aL cE dE dm dR dL bU dw dG bK bn bB eh eo
def lR (C I:List Ins)(o:List Int)(X:List Hd)(p:Nat):Prop:=∀(b:p<I.length) (n:Nat) (a:n<C.length),o.getD p 0=(n:Int)->∀(m:Nat) (l r:Int),(aQ I[p])[m]? = some l->(aQ C[n])[m]? = some r->((X.getD p cb).of l).has r=true
theorem Kq {X:List Hd}{n:Nat}(h:n<X.length):(X.map Hd.row)[((n:Int)).toNat]? = some (X.getD n cb).row:=by simp_all
theorem OH {C I:List Ins}{o:List Int}{X:List Hd}{p:Nat}(b:p<o.length)(h:o[p] = -1):lR C I o X p:=fun _ n _ a=>by grind
abbrev Ae (us ws:List Int)(h:Hd):Type:={m:Nat // m≤us.length∧∀(i:Nat) (l r:Int),i<m->us[i]? = some l->ws[i]? = some r->(h.of l).has r=true}
theorem XM {us ws:List Int}{h:Hd}(m:Ae us ws h)(d:m.1<us.length)(e:m.1<ws.length)(f:(h.of us[m.1]).has ws[m.1]=true):∀(i:Nat) (l r:Int),i<m.1+1->us[i]? = some l->ws[i]? = some r->(h.of l).has r=true:=fun i l r c a b=>by
 grind
theorem OG {C I:List Ins}{o:List Int}{X:List Hd}{p n:Nat}(f:p<I.length)(j:n<C.length)(d:p<o.length)(h:o[p]=(n:Int))(m:Ae (aQ I[p]) (aQ C[n]) (X.getD p cb))(g:(aQ I[p]).length≤m.1):lR C I o X p:=fun _ c _ e i l r a b=>by
 rw[ej d] at *;obtain rfl:c=n:=aa
 grind
theorem OI {C I:List Ins}{o:List Int}{X:List Hd}{p n m:Nat}(f:p<I.length)(g:n<C.length)(d:p<o.length)(h:o[p]=(n:Int))(b:m<(aQ I[p]).length)(a:m<(aQ C[n]).length)(c:((X.getD p cb).of (aQ I[p])[m]).has (aQ C[n])[m]=false):(false=true↔∀p,lR C I o X p):=
 ⟨fun e=>(by cases e),fun e=>by
  have:=e p _ n _ (by grind) m _ _ (zbf b) (zbf a)
  grind⟩
theorem YO (c d:Cd)(a:List (List Int))(q:Nat)(R:q<d.b.l.length)(M:q<c.b.l.length)(P:q<a.length)(T:d.b.l[q].ins.l.length≤2000)
 (K:af 62 [.agg (c.cells++d.cells++[.ak 1 (a.map fun l=>[aT l])]),i64 q] (fun x=>∃g X,x = .ret (.ak 3 (X.map Hd.row))∧cZ d q g∧gk (bM c.b.l[q].ins.l a[q] g) X))
 (O:∀g X,cZ d q g->gk (bM c.b.l[q].ins.l a[q] g) X->X.length=d.b.l[q].ins.l.length+1∧∀p,(X.getD p cb).iP)(B:∀i∈d.b.l[q].ins.l,i.l.l.length≤40)(C:∀i∈c.b.l[q].ins.l,i.l.l.length≤40)
 (A:a[q].length=d.b.l[q].ins.l.length)(v:∀p (z:p<a[q].length),a[q][p] = -1∨∃n:Nat,∃o:n<c.b.l[q].ins.l.length,a[q][p]=(n:Int)∧(aQ (d.b.l[q].ins.l[p]'aa)).length=(aQ c.b.l[q].ins.l[n]).length) :
 af 60 [.agg (c.cells++d.cells++[.ak 1 (a.map fun l=>[aT l])]),i64 q] (fun x=>∃g X b,x = .ret (.bool b)∧cZ d q g∧gk (bM c.b.l[q].ins.l a[q] g) X∧(b=true↔∀p,lR c.b.l[q].ins.l d.b.l[q].ins.l a[q] X p)):=by
 refine zw func60 ?_;refine zg ?_
 repeat' ((refine DC.pure rfl (K) ?_;rintro _ ⟨g,X,rfl,y,f⟩)<;>refine zg ?_)
 obtain⟨I,u⟩:=O g X y f;have L:=d.b.l[q].ins.h;refine DW.aO aC aD [1,2,4,5,21,22] [] 0 (fun n:{n:Nat // n≤d.b.l[q].ins.l.length∧∀p,p<n->lR c.b.l[q].ins.l d.b.l[q].ins.l a[q] X p}=>[(23,i64 n.1)]) (fun _=>[]) [] (fun n=>d.b.l[q].ins.l.length - n.1) (⟨0,zbq _,fun p h=>absurd h (zbK _)⟩) ?_
 refine zl fun n=>?_
 rcases zbI n.1 d.b.l[q].ins.l.length with o|o
 . have j : n.1 < a[q].length := by rw [A]; exact o
   have F:=B _ (za9 o);have D:lR c.b.l[q].ins.l d.b.l[q].ins.l a[q] X n.1->∀p,p<n.1+1->lR c.b.l[q].ins.l d.b.l[q].ins.l a[q] X p:=fun h p z=>by
    by_cases e:p=n.1
    . rw[e];exact h
    . exact n.2.2 p aa
   rcases v n.1 j with t|⟨k,w,t,N⟩
   . have r := D (OH j t)
     refine zg ?_
     repeat' ((refine zp ?_ ?_<;>first|exact⟨⟩|intro h)<;>refine zg ?_)
     exact zi ⟨n.1+1,o,r⟩
   . have J := C _ (za9 w)
     refine zk ?_
     repeat' ((first|refine az.mk _ (kS w t) ?_|(refine zp ?_ ?_<;>first|exact⟨⟩|intro h)|refine az.mk _ (bO aa) ?_|(refine DC.pure rfl (zA d.b.l[q].ins.l[n.1] F) ?_;rintro _ rfl)|(refine DC.pure rfl (zA c.b.l[q].ins.l[k] J) ?_;rintro _ rfl))<;>refine zk ?_)
     refine DW.aO aC aD [1,2,4,5,6,7,8,9,21,22,23,24,25,26,27,28,29,30,31,32,33,34,35,36,37,38,39,40,41,42,43,44,45,46,47,48,49,50,51] [] 0 (fun m:Ae (aQ d.b.l[q].ins.l[n.1]) (aQ c.b.l[q].ins.l[k]) (X.getD n.1 cb)=>[(52,i64 m.1)]) (fun _=>[]) [] (fun m=>(aQ d.b.l[q].ins.l[n.1]).length - m.1) (⟨0,zbq _,fun i _ _ h=>absurd h (zbK _)⟩) ?_
     refine zl fun m=>?_
     have S:=m.2.1;have E:(aQ d.b.l[q].ins.l[n.1]).length≤1000:=zbu (zB F) aa;refine zk ?_
     repeat' ((first|refine az.mk _ (Kq (n:=n.1) aa) ?_|(refine zp ?_ ?_<;>intro h)|refine az.mk _ (bO aa) ?_|(refine zh rfl (qs (X.getD n.1 cb) _) ?_;rintro _ rfl)|(refine zh rfl (qb _ ((u n.1).all _).1 (zbu ((u n.1).all _).2 aa) _) ?_;rintro _ rfl))<;>refine zk ?_)
     . have H : m.1 < (aQ d.b.l[q].ins.l[n.1]).length := aa
       have Q:=XM m H aa bD;exact zi ⟨m.1+1,H,Q⟩
     . exact⟨g,X,false,rfl,y,f,OI (m:=m.1) o w j t aa aa bD⟩
     . have r := D (OG o w j t m aa)
       exact zi ⟨n.1+1,o,r⟩
 . have s:∀p,lR c.b.l[q].ins.l d.b.l[q].ins.l a[q] X p:=fun p=>by
    rcases zbI p n.1 with h|h
    . exact n.2.2 p h
    . exact fun z=>absurd z aa
   refine zg ?_
   repeat' ((refine zp ?_ ?_<;>first|exact⟨⟩|intro h)<;>refine zg ?_)
   exact⟨g,X,true,rfl,y,f,⟨fun _=>s,fun _=>rfl⟩⟩
end Go.Ago
namespace Go.Ago
open Go.Proofs List Nat Tryz
attribute [local irreducible] bA bw aV bp bG wr aZ bF comp DC DP DW DV
attribute [local irreducible] cR ee
attribute [local irreducible] du ct aL cE dE dm dR dL bU dw dG bK bn bB eh eo
theorem y7 {n:Nat}{l:List Int}:an.lt n (.arr 1 (l.map fun z=>[i64 z])):=by
 show(List.all _ _)=true;rw[all_map,zbr];intro x _;rfl
theorem LF {ρ:Nat->Nat}{l m:List Int}(h:l=m):an.arr 1 (l.map fun z=>[i64 z])=an.cp ρ (.arr 1 (m.map fun z=>[i64 z])):=by
 subst h;simp only[an.cp,zcz]
 congr 1
theorem Zy {ρ:Nat->Nat}{m:Nat}{o:List Int}{L:Nat}(h:m=L+1):an.arr 1 (replicate m [i64 0])=an.cp ρ (.arr 1 ((ee o L (L+1)).map fun z=>[i64 z])):=by
 subst h;rw[Zv,<-LF rfl,map_replicate]
theorem DU {ρ:Nat->Nat}{o:List Int}{L p:Nat}{z v:Int}(b:p≤L)(c:z=(p:Int))(a:v=(cR o p:Int)):an.arr 1 (((ee o L (p+1)).map fun z=>[i64 z]).set (0+z.toNat) [i64 v])=an.cp ρ (.arr 1 ((ee o L p).map fun z=>[i64 z])):=by
 subst c a;rw[<-LF rfl,<-Zx b,zce,zbt,zcD]
theorem oB {ρ:Nat->Nat}{a b:Int}(h:a=b):AV.int .i64 a=AV.r2 ρ (.int .i64 b):=by rw[h];rfl
theorem mj {α:Type}{f:α->List AV}{l:List α}{z:Int}{k:Nat}(a:k<l.length)(h:z=(k:Int)):(l.map f)[0+z.toNat]? = some (f l[k]):=by simp_all
theorem Lh {H:aj}{k L:Nat}{l:List Int}(b:L=l.length)(a:H.get k=some (.arr 1 (l.map fun z=>[i64 z]))):snap H 20 (.ay k 0 L 1)=some (aT l):=by
 subst b;refine oZ a ag ?_;rw[zbj ag];exact Cw
theorem LG (c d:Cd)(a:List (List Int))(q:Nat)(hqc:q<c.b.l.length)(hqo:q<a.length)(hs:a[q].length≤2000)(hrow:∀p (f:p<a[q].length),a[q][p] = -1∨∃n:Nat,a[q][p]=(n:Int))(i:a[q].filter fe=a_ c.b.l[q].ins.l.length) :
 af 111 [.agg (c.cells++d.cells++[.ak 1 (a.map fun l=>[aT l])]),i64 q] (fun ae=>ae = .ret (aT (ee a[q] a[q].length 0))):=by
 refine zw func111 ?_;have m:wr .i64 ((a[q].length:Int)+1)=((a[q].length+1:Nat):Int):=by rw[aE aa aa];omega
 refine zg ?_
 repeat' ((refine Rq.mk (IV (by rw[zba];omega) ab ab) ?_)<;>refine zg ?_)
 refine DW.aO aC aD [4,5,6] [11] 0 (fun j:{j:Nat // j≤a[q].length+1}=>[(7,i64 (cR a[q] j.1)),(8,i64 ((j.1:Int) - 1))]) (fun j=>[(11,.arr 1 ((ee a[q] a[q].length j.1).map fun z=>[i64 z]))]) [] (fun j=>j.1) (⟨a[q].length+1,zbm _⟩) ?_
 conv=>whnf
 refine⟨?_,fun x=>?_⟩
 . conv => whnf
   (repeat' first|exact True.intro|apply And.intro|rfl|exact y7|(refine Zy ?_;rw[zba,m];rfl)|(refine oB ?_;first|(rw[zba,y_ (le_succ _),LL i];done)|(rw[zba];dsimp only;omega)))
 obtain⟨j,hj⟩:=x;cases j with
 | zero =>
   dsimp only;refine zg ?_
   repeat' ((refine zp ?_ ?_<;>first|exact⟨⟩|intro h)<;>refine zg ?_)
   generalize hy:snap _ _ _=rr
   obtain rfl:=hy.symm.trans (Lh (l:=ee a[q] a[q].length 0) (by rw[qP,zba,m];rfl) rfl)
   rfl
 | succ p =>
   dsimp only;have e:((p+1:Nat):Int) - 1=(p:Int):=aa;rcases zbI p a[q].length with f|f
   . rcases hrow p f with o | ⟨k, o⟩
     . have g := LM f (by rw [ej f]; exact o)
       refine zk ?_
       repeat' ((first|refine az.mk _ (kS f e) ?_|(refine bR (mj (by rw[qP];omega) e) ?_)|(refine zp ?_ ?_<;>first|exact⟨⟩|intro h))<;>refine zk ?_)
       (refine⟨⟨p,aa⟩,(by(conv=>whnf);(repeat' first|exact True.intro|apply And.intro|rfl|exact y7|(refine DU aa e ?_;exact zbc Int.ofNat g)|(refine oB ?_;first|(exact zbc Int.ofNat g;done)|(rw[aE aa aa];dsimp only;omega)))),rfl,eY⟩)
     . have g := (LN i f (by rw [ej f]; exact o)).1
       refine zk ?_
       repeat' ((first|refine az.mk _ (kS f e) ?_|(refine bR (mj (by rw[qP];omega) e) ?_)|(refine zp ?_ ?_<;>first|exact⟨⟩|intro h))<;>refine zk ?_)
       (refine⟨⟨p,aa⟩,(by(conv=>whnf);(repeat' first|exact True.intro|apply And.intro|rfl|exact y7|(refine DU aa e ?_;(rw[g];exact o))|(refine oB ?_;first|((rw[g];exact o);done)|(rw[aE aa aa];dsimp only;omega)))),rfl,eY⟩)
   . have g := (y_ (zc1 f)).trans (y_ f).symm
     refine zk ?_
     repeat' ((first|(refine bR (mj (by rw[qP];omega) e) ?_)|(refine zp ?_ ?_<;>first|exact⟨⟩|intro h))<;>refine zk ?_)
     (refine⟨⟨p,aa⟩,(by(conv=>whnf);(repeat' first|exact True.intro|apply And.intro|rfl|exact y7|(refine DU aa e ?_;exact zbc Int.ofNat g)|(refine oB ?_;first|(exact zbc Int.ofNat g;done)|(rw[aE aa aa];dsimp only;omega)))),rfl,eY⟩)
theorem Vn (c d:Cd)(a:List (List Int))(D:d.b.l.length=c.b.l.length)(J:a.length=c.b.l.length)(A:∀l∈a,l.length≤2000)
 (r:∀(q:Nat) (f:q<a.length) (t:q<d.b.l.length),a[q].length=d.b.l[q].ins.l.length)
 (m:∀(q:Nat) (f:q<a.length) (t:q<d.b.l.length) (u:q<c.b.l.length) (p:Nat) (e:p<a[q].length) (C:p<d.b.l[q].ins.l.length),(a[q][p] = -1∧d.b.l[q].ins.l[p].op=3)∨∃n:Nat,n<c.b.l[q].ins.l.length∧a[q][p]=(n:Int))
 (j:∀(q:Nat) (f:q<a.length) (u:q<c.b.l.length),a[q].filter fe=a_ c.b.l[q].ins.l.length) :
 af 110 [.agg (c.cells++d.cells++[.ak 1 (a.map fun l=>[aT l])])] (fun G=>G = .ret (.bool true)):=by
 refine zw func110 ?_;have I:=c.b.h;refine zg ?_
 repeat' ((refine zp ?_ ?_<;>first|exact⟨⟩|intro h)<;>refine zg ?_)
 refine DW.aO aC aD [1,2,28,29] [] 0 (fun q:{q:Nat // q≤a.length}=>[(30,i64 q.1)]) (fun _=>[]) [] (fun q=>a.length - q.1) (⟨0,zbq _⟩) ?_
 refine zl fun x=>?_
 obtain⟨q,B⟩:=x;dsimp only;rcases zbI q a.length with f|f
 . have i : q < d.b.l.length := aa
   have o:q<c.b.l.length:=aa;have L:=r q f i;have F:=A _ (za9 f);have z:=j q f o;have H:=c.b.l[q].ins.h;refine zg ?_
   repeat' ((refine zp ?_ ?_<;>first|exact⟨⟩|intro h)<;>refine zg ?_)
   refine DW.aO aC aD [1,2,3,4,28,29,30,31,32,33,34,35,36,37,38,39,40,41,42,43,44,45,46,47] [] 0 (fun p:{p:Nat // p≤a[q].length}=>[(48,i64 p.1),(5,i64 (cR a[q] p.1))]) (fun _=>[]) [] (fun p=>a[q].length - p.1) (⟨0,zbq _⟩) ?_
   conv=>whnf
   refine⟨?_,fun y=>?_⟩
   . conv => whnf
     (repeat' first|exact True.intro|apply And.intro|rfl|(refine oB ?_;exact(zbc Int.ofNat ZJ).symm))
   obtain⟨p,E⟩:=y;dsimp only;rcases zbI p a[q].length with e|e
   . have s : p < d.b.l[q].ins.l.length := aa
     rcases m q f i o p e s with⟨v,K⟩|⟨k,M,v⟩
     . have g := LM e (by rw [ej e]; exact v)
       refine zg ?_
       repeat' ((refine zp ?_ ?_<;>first|exact⟨⟩|intro h)<;>refine zg ?_)
       (refine⟨⟨p+1,e⟩,(by(conv=>whnf);(repeat' first|exact True.intro|apply And.intro|rfl|(refine oB ?_;first|(exact(zbc Int.ofNat g).symm;done)|(rw[aE aa aa];dsimp only;omega)))),rfl,eY⟩)
     . have g := LN z e (by rw [ej e]; exact v)
       refine zg ?_
       repeat' ((refine zp ?_ ?_<;>first|exact⟨⟩|intro h)<;>refine zg ?_)
       (refine⟨⟨p+1,e⟩,(by(conv=>whnf);(repeat' first|exact True.intro|apply And.intro|rfl|(refine oB ?_;first|((rw[aE aa aa,g.2,g.1];rfl);done)|(rw[aE aa aa];dsimp only;omega)))),rfl,eY⟩)
   . have g : cR a[q] p = c.b.l[q].ins.l.length := (y_ e).trans (LL z)
     refine zg ?_
     repeat' ((refine zp ?_ ?_<;>first|exact⟨⟩|intro h)<;>refine zg ?_)
     (refine⟨⟨q+1,f⟩,(by(conv=>whnf);(repeat' first|exact True.intro|apply And.intro|rfl|(refine oB ?_;(rw[aE aa aa];dsimp only;omega)))),rfl,eY⟩)
 . refine zg ?_
   repeat' ((refine zp ?_ ?_<;>first|exact⟨⟩|intro h)<;>refine zg ?_)
   all_goals exact⟨⟩
end Go.Ago
namespace Go.Ago
open Go.Proofs List Nat Tryz
attribute [local irreducible] bA bw aV bp bG wr aZ bF comp DC DP DW DV
attribute [local irreducible] du ct aL cE dE dm dR dL bU dw dG bK bn bB eh eo
theorem Bt {k:Int}{i:Ins}(h:j2 k i):(i.d<k∧i.a<k∧i.b<k)∨(i.op=3∧k≤i.d∧i.a<k∧i.b<k)∨(i.op=3∧i.d<k∧k≤i.a∧i.b<k)∨(i.op=3∧i.d<k∧i.a<k∧k≤i.b):=by
 unfold j2 at h
 by_cases e:k≤i.d<;>by_cases f:k≤i.a<;>by_cases c:k≤i.b<;>simp only[e,f,c,if_true,zb8] at h<;>omega
theorem P9 (a b c:AV):chunk [a,b,c] ((wr .i64 (0+1)).toNat * o6.size) o6.size=some [b]:=aG
theorem P_ (a b c:AV):chunk [a,b,c] ((wr .i64 (wr .i64 (0+1)+1)).toNat * o6.size) o6.size=some [c]:=aG
theorem R9 (d:Cd)(k:Int)(o:q9 k d):af 58 [d.av,i64 k] (fun r=>r = .ret (.bool true)):=by
 refine zw func58 ?_;have w:=d.b.h;have v:wr .i64 (0+1)=1:=by rw[aE aa aa];rfl
 have m:wr .i64 (wr .i64 (0+1)+1)=2:=by rw[v,aE aa aa];rfl
 have z:wr .i64 (wr .i64 (wr .i64 (0+1)+1)+1)=3:=by rw[m,aE aa aa];rfl
 conv=>whnf
 refine DW.aO aC aD [1,4,13,14] [] 0 (fun q:{q:Nat // q≤d.b.l.length}=>[(15,i64 q.1)]) (fun _=>[]) [] (fun q=>d.b.l.length - q.1) (⟨0,zbq _⟩) ?_
 refine zl fun x=>?_
 obtain⟨q,n⟩:=x;dsimp only;rcases zbI q d.b.l.length with c|c
 . obtain ⟨A, s⟩ := o _ (za9 c)
   have t:=d.b.l[q].ins.h;refine zg ?_
   repeat' ((refine zp ?_ ?_<;>first|exact⟨⟩|intro h)<;>refine zg ?_)
   refine DW.aO aC aD [1,4,6,13,14,15,16,17,18,19,20,21,22,23,24,25] [] 0 (fun p:{p:Nat // p≤d.b.l[q].ins.l.length}=>[(26,i64 p.1)]) (fun _=>[]) [] (fun p=>d.b.l[q].ins.l.length - p.1) (⟨0,zbq _⟩) ?_
   refine zl fun y=>?_
   obtain⟨p,u⟩:=y;dsimp only;rcases zbI p d.b.l[q].ins.l.length with e|e
   . rcases Bt (s _ (za9 e)) with ⟨a, f, g⟩ | ⟨i, a, f, g⟩ | ⟨i, a, f, g⟩ | ⟨i, a, f, g⟩
     all_goals
      refine zk ?_
      repeat' ((first|refine az.mk _ (P9 _ _ _) ?_|refine az.mk _ (P_ _ _ _) ?_|(refine zp ?_ ?_<;>first|exact⟨⟩|intro h)|refine az.mk _ (bO aa) ?_|refine DW.rounds aC aD 4 ?_|refine zo ?_)<;>refine zk ?_)
      exact zi ⟨p+1,e⟩
   . refine zg ?_
     repeat' ((refine zp ?_ ?_<;>first|exact⟨⟩|intro h)<;>refine zg ?_)
     exact zi ⟨q+1,c⟩
 . refine zg ?_
   repeat' ((refine zp ?_ ?_<;>first|exact⟨⟩|intro h)<;>refine zg ?_)
   all_goals exact⟨⟩
end Go.Ago
namespace Go.Ago
open Go.Proofs List Nat Tryz
attribute [local irreducible] bA bw aV bp bG wr aZ bF comp DC DP DW DV
theorem RD (l:List iR)(d:l.length<281474976710656):af 200 [.ak 8 (l.map iR.cells),.ak 8 (l.map iR.cells)] (fun c=>c = .ret (.bool true)):=by
 refine zw func200 ?_;refine zg ?_
 repeat' ((refine zb ?_ ?_<;>(first|exact⟨⟩|intro h))<;>refine zg ?_)
 refine DW.aO aC aD [0,1,4,12] [] 0 (fun x:{x:Nat // x≤l.length}=>[(13,i64 x.1)]) (fun _=>[]) [] (fun x=>l.length - x.1) (⟨0,zbq _⟩) ?_
 refine zl fun x=>?_
 have e:=x.2;refine zg ?_
 repeat' (((refine zb ?_ ?_<;>(intro h)<;>try (exfalso;(simp[bp,aV,eU] at h;done))))<;>refine zg ?_)
 . have a : x.1 < l.length := aa
   exact zi ⟨x.1+1,a⟩
 all_goals exact⟨⟩
theorem RE (l:List Fl)(d:l.length<281474976710656):af 201 [.ak 2 (l.map Fl.cells),.ak 2 (l.map Fl.cells)] (fun c=>c = .ret (.bool true)):=by
 refine zw func201 ?_;refine zg ?_
 repeat' ((refine zb ?_ ?_<;>(first|exact⟨⟩|intro h))<;>refine zg ?_)
 refine DW.aO aC aD [0,1,4,12] [] 0 (fun x:{x:Nat // x≤l.length}=>[(13,i64 x.1)]) (fun _=>[]) [] (fun x=>l.length - x.1) (⟨0,zbq _⟩) ?_
 refine zl fun x=>?_
 have e:=x.2;refine zg ?_
 repeat' (((refine zb ?_ ?_<;>(intro h)<;>try (exfalso;(simp[bp,aV,eU] at h;done))))<;>refine zg ?_)
 . have a : x.1 < l.length := aa
   exact zi ⟨x.1+1,a⟩
 all_goals exact⟨⟩
theorem RF (l:List (BL UInt8))(d:l.length<281474976710656):af 202 [.ak 1 (l.map fun s=>[.str s.l]),.ak 1 (l.map fun s=>[.str s.l])] (fun c=>c = .ret (.bool true)):=by
 refine zw func202 ?_;refine zg ?_
 repeat' ((refine zb ?_ ?_<;>(first|exact⟨⟩|intro h))<;>refine zg ?_)
 refine DW.aO aC aD [0,1,4,12] [] 0 (fun x:{x:Nat // x≤l.length}=>[(13,i64 x.1)]) (fun _=>[]) [] (fun x=>l.length - x.1) (⟨0,zbq _⟩) ?_
 refine zl fun x=>?_
 have e:=x.2;refine zg ?_
 repeat' (((refine zb ?_ ?_<;>(intro h)<;>try (exfalso;(simp[bp,aV,eU] at h;done))))<;>refine zg ?_)
 . have a : x.1 < l.length := aa
   exact zi ⟨x.1+1,a⟩
 all_goals exact⟨⟩
theorem RJ (l:List Int)(d:l.length<281474976710656):af 24 [.ak 1 (l.map fun n=>[i64 n]),.ak 1 (l.map fun n=>[i64 n])] (fun c=>c = .ret (.bool true)):=by
 refine zw func24 ?_;refine zg ?_
 repeat' ((refine zb ?_ ?_<;>(first|exact⟨⟩|intro h))<;>refine zg ?_)
 refine DW.aO aC aD [0,1,4,12] [] 0 (fun x:{x:Nat // x≤l.length}=>[(13,i64 x.1)]) (fun _=>[]) [] (fun x=>l.length - x.1) (⟨0,zbq _⟩) ?_
 refine zl fun x=>?_
 have e:=x.2;refine zg ?_
 repeat' (((refine zb ?_ ?_<;>(first|exact⟨⟩|intro h)))<;>refine zg ?_)
 . have a : x.1 < l.length := aa
   exact zi ⟨x.1+1,a⟩
 all_goals exact⟨⟩
theorem RG (l:List Fm)(d:l.length<281474976710656):af 203 [.ak 4 (l.map Fm.cells),.ak 4 (l.map Fm.cells)] (fun c=>c = .ret (.bool true)):=by
 refine zw func203 ?_;refine zg ?_
 repeat' ((refine zb ?_ ?_<;>(first|exact⟨⟩|intro h))<;>refine zg ?_)
 refine DW.aO aC aD [0,1,4,12] [] 0 (fun x:{x:Nat // x≤l.length}=>[(13,i64 x.1)]) (fun _=>[]) [] (fun x=>l.length - x.1) (⟨0,zbq _⟩) ?_
 refine zl fun x=>?_
 have e:=x.2;refine zg ?_
 repeat' (((refine zb ?_ ?_<;>(intro h)<;>try (exfalso;(simp[bp,aV,eU] at h;done))))<;>refine zg ?_)
 . have a : x.1 < l.length := aa
   exact zi ⟨x.1+1,a⟩
 all_goals exact⟨⟩
theorem RH (l:List Ty)(d:l.length<281474976710656):af 204 [.ak 5 (l.map Ty.cells),.ak 5 (l.map Ty.cells)] (fun c=>c = .ret (.bool true)):=by
 refine zw func204 ?_;refine zg ?_
 repeat' ((refine zb ?_ ?_<;>(first|exact⟨⟩|intro h))<;>refine zg ?_)
 refine DW.aO aC aD [0,1,4,12] [] 0 (fun x:{x:Nat // x≤l.length}=>[(13,i64 x.1)]) (fun _=>[]) [] (fun x=>l.length - x.1) (⟨0,zbq _⟩) ?_
 refine zl fun x=>?_
 have e:=x.2;refine zg ?_
 repeat' (((refine zb ?_ ?_<;>(intro h)<;>try (exfalso;(simp[bp,aV,eU] at h;done))))<;>refine zg ?_)
 . have a : x.1 < l.length := aa
   exact zi ⟨x.1+1,a⟩
 all_goals exact⟨⟩
theorem Lf (l:List iR)(b:l.length<281474976710656):af 159 [.ak 8 (l.map iR.cells),.ak 8 (l.map iR.cells)] (fun c=>c = .ret (.bool true)):=by
 have k1:=RD l b;exact zw func159 W
theorem YY (l:List Fl)(b:l.length<281474976710656):af 160 [.ak 2 (l.map Fl.cells),.ak 2 (l.map Fl.cells)] (fun c=>c = .ret (.bool true)):=by
 have k1:=RE l b;exact zw func160 W
theorem YZ (l:List (BL UInt8))(b:l.length<281474976710656):af 161 [.ak 1 (l.map fun s=>[.str s.l]),.ak 1 (l.map fun s=>[.str s.l])] (fun c=>c = .ret (.bool true)):=by
 have k1:=RF l b;exact zw func161 W
theorem Y0 (l:List Int)(b:l.length<281474976710656):af 162 [.ak 1 (l.map fun n=>[i64 n]),.ak 1 (l.map fun n=>[i64 n])] (fun c=>c = .ret (.bool true)):=by
 have k1:=RJ l b;exact zw func162 W
theorem DL (l:List Fm)(b:l.length<281474976710656):af 165 [.ak 4 (l.map Fm.cells),.ak 4 (l.map Fm.cells)] (fun c=>c = .ret (.bool true)):=by
 have k1:=RG l b;exact zw func165 W
theorem y3 (l:List Ty)(b:l.length<281474976710656):af 166 [.ak 5 (l.map Ty.cells),.ak 5 (l.map Ty.cells)] (fun c=>c = .ret (.bool true)):=by
 have k1:=RH l b;exact zw func166 W
theorem Xo (p:eG):af 158 [p.av,p.av] (fun b=>b = .ret (.bool true)):=by
 refine zw func158 ?_;refine zg ?_
 repeat' ((first|(refine zb ?_ ?_<;>(first|exact⟨⟩|intro h)<;>try (exfalso;(simp[bp,aV,eU] at h;done)))|(refine DC.pure rfl (Lf p.init.l p.init.h) ?_;rintro _ rfl)|(refine DC.pure rfl (y3 p.lK.l p.lK.h) ?_;rintro _ rfl))<;>refine zg ?_)
 all_goals exact⟨⟩
theorem Xp (l:List eG)(d:l.length<281474976710656):af 157 [.ak 7 (l.map eG.cells),.ak 7 (l.map eG.cells),.fn (.func 158) [] []] (fun c=>c = .ret (.bool true)):=by
 refine zw func157 ?_;refine zg ?_
 repeat' ((refine zb ?_ ?_<;>(first|exact⟨⟩|intro h))<;>refine zg ?_)
 refine DW.aO aC aD [1,2,6,15,16] [] 0 (fun x:{x:Nat // x≤l.length}=>[(17,i64 x.1)]) (fun _=>[]) [] (fun x=>l.length - x.1) (⟨0,zbq _⟩) ?_
 refine zl fun x=>?_
 rcases zbI x.1 l.length with a|a
 . refine zg ?_
   repeat' ((first|(refine zb ?_ ?_<;>(intro h)<;>try (exfalso;omega))|(refine DC.pure rfl (Xo l[x.1]) ?_;rintro _ rfl))<;>refine zg ?_)
   exact zi ⟨x.1+1,a⟩
 . refine zg ?_
   repeat' ((refine zb ?_ ?_<;>(intro h)<;>try (exfalso;omega))<;>refine zg ?_)
   all_goals exact⟨⟩
theorem Xs (p:cQ):af 109 [p.av,p.av] (fun b=>b = .ret (.bool true)):=by
 refine zw func109 ?_;refine zg ?_
 repeat' ((first|(refine zb ?_ ?_<;>(first|exact⟨⟩|intro h))|(refine DC.pure rfl (Xp p.procs.l p.procs.h) ?_;rintro _ rfl)|(refine DC.pure rfl (Lf p.image.l p.image.h) ?_;rintro _ rfl)|(refine DC.pure rfl (YY p.files.l p.files.h) ?_;rintro _ rfl)|(refine DC.pure rfl (YZ p.conds.l p.conds.h) ?_;rintro _ rfl)|(refine DC.pure rfl (Y0 p.dv.l p.dv.h) ?_;rintro _ rfl))<;>refine zg ?_)
 all_goals exact⟨⟩
theorem h_ (r:Int):af 163 [i64 r] (fun b=>∃z,b = .ret (i64 z)∧((r<0∧z=r)∨(0≤r∧z=0))):=by
 refine zw func163 ?_;exact⟨_,rfl,by unfold bF;grind⟩
theorem JK (i:Ins)(h0:i.op=14∨i.op=15∨i.op=16):af 164 [i.av] (fun b=>b = .ret (Ins.av { i with n:=0 })):=by
 exact zw func164 W
theorem JJ (i:Ins)(h0:i.op=28∨i.op=29):af 164 [i.av] (fun b=>b = .ret (Ins.av { i with m:=0 })):=by
 exact zw func164 W
theorem JL (i:Ins)(h0:i.op≠14∧i.op≠15∧i.op≠16∧i.op≠28∧i.op≠29):af 164 [i.av] (fun b=>b = .ret (Ins.av i)):=by
 exact zw func164 W
theorem YU {x y:Ins}(h:SimI x y):∃(d a b n m:Int) (l:BL Int),y={ x with d:=d,a:=a,b:=b,l:=l,n:=n,m:=m }:=⟨_,_,_,_,_,_,h.eq⟩
theorem Ai (x y:Ins)(h:SimI x y):af 112 [x.av,y.av] (fun o=>o = .ret (.bool true)):=by
 obtain⟨d,a,b,n,m,l,rfl⟩:=YU h;have r:=h.d;have s:=h.a;have k:=h.b;have p:=h.l;have i:=h.n;have j:=h.m;dsimp only at r s k p i j;have q:(x.op=14∨x.op=15∨x.op=16)∨(x.op=28∨x.op=29)∨(x.op≠14∧x.op≠15∧x.op≠16∧x.op≠28∧x.op≠29):=aa;rcases q with e|e|e
 . have j := j aa aa
   refine zw func112 ?_;refine zg ?_
   repeat' ((first|(refine zb ?_ ?_<;>(first|exact⟨⟩|intro h)<;>try (exfalso;first|omega|(simp[bp,aV,eU] at h;done)))|(refine zh rfl (h_ x.d) ?_;rintro _ ⟨z,rfl,c⟩)|(refine zh rfl (h_ x.a) ?_;rintro _ ⟨z,rfl,c⟩)|(refine zh rfl (h_ x.b) ?_;rintro _ ⟨z,rfl,c⟩)|(refine zh rfl (h_ d) ?_;rintro _ ⟨z,rfl,c⟩)|(refine zh rfl (h_ a) ?_;rintro _ ⟨z,rfl,c⟩)|(refine zh rfl (h_ b) ?_;rintro _ ⟨z,rfl,c⟩)|(refine zh rfl (JK x e) ?_;rintro _ rfl)|(refine zh rfl (JK { x with d:=d,a:=a,b:=b,l:=l,n:=n,m:=m } e) ?_;rintro _ rfl)|(refine DC.pure rfl (DL x.f.l x.f.h) ?_;rintro _ rfl)|(refine DC.pure rfl (y3 x.y.l x.y.h) ?_;rintro _ rfl))<;>refine zg ?_)
   all_goals first|exact⟨⟩|exact absurd (‹x.size=true›.symm.trans ‹x.size=false›) ab|exact absurd (‹x.range=true›.symm.trans ‹x.range=false›) ab
 . have i := i aa aa aa
   refine zw func112 ?_;refine zg ?_
   repeat' ((first|(refine zb ?_ ?_<;>(first|exact⟨⟩|intro h)<;>try (exfalso;first|omega|(simp[bp,aV,eU] at h;done)))|(refine zh rfl (h_ x.d) ?_;rintro _ ⟨z,rfl,c⟩)|(refine zh rfl (h_ x.a) ?_;rintro _ ⟨z,rfl,c⟩)|(refine zh rfl (h_ x.b) ?_;rintro _ ⟨z,rfl,c⟩)|(refine zh rfl (h_ d) ?_;rintro _ ⟨z,rfl,c⟩)|(refine zh rfl (h_ a) ?_;rintro _ ⟨z,rfl,c⟩)|(refine zh rfl (h_ b) ?_;rintro _ ⟨z,rfl,c⟩)|(refine zh rfl (JJ x e) ?_;rintro _ rfl)|(refine zh rfl (JJ { x with d:=d,a:=a,b:=b,l:=l,n:=n,m:=m } e) ?_;rintro _ rfl)|(refine DC.pure rfl (DL x.f.l x.f.h) ?_;rintro _ rfl)|(refine DC.pure rfl (y3 x.y.l x.y.h) ?_;rintro _ rfl))<;>refine zg ?_)
   all_goals first|exact⟨⟩|exact absurd (‹x.size=true›.symm.trans ‹x.size=false›) ab|exact absurd (‹x.range=true›.symm.trans ‹x.range=false›) ab
 . have j := j aa aa
   have i:=i aa aa aa;refine zw func112 ?_;refine zg ?_
   repeat' ((first|(refine zb ?_ ?_<;>(first|exact⟨⟩|intro h)<;>try (exfalso;first|omega|(simp[bp,aV,eU] at h;done)))|(refine zh rfl (h_ x.d) ?_;rintro _ ⟨z,rfl,c⟩)|(refine zh rfl (h_ x.a) ?_;rintro _ ⟨z,rfl,c⟩)|(refine zh rfl (h_ x.b) ?_;rintro _ ⟨z,rfl,c⟩)|(refine zh rfl (h_ d) ?_;rintro _ ⟨z,rfl,c⟩)|(refine zh rfl (h_ a) ?_;rintro _ ⟨z,rfl,c⟩)|(refine zh rfl (h_ b) ?_;rintro _ ⟨z,rfl,c⟩)|(refine zh rfl (JL x e) ?_;rintro _ rfl)|(refine zh rfl (JL { x with d:=d,a:=a,b:=b,l:=l,n:=n,m:=m } e) ?_;rintro _ rfl)|(refine DC.pure rfl (DL x.f.l x.f.h) ?_;rintro _ rfl)|(refine DC.pure rfl (y3 x.y.l x.y.h) ?_;rintro _ rfl))<;>refine zg ?_)
   all_goals first|exact⟨⟩|exact absurd (‹x.size=true›.symm.trans ‹x.size=false›) ab|exact absurd (‹x.range=true›.symm.trans ‹x.range=false›) ab
end Go.Ago
section
namespace Go.Ago
open Go.Proofs List Nat Tryz
attribute [local irreducible] bA bw aV bp bG wr aZ bF comp DC DP DW DV
attribute [local irreducible] cR ee bP
attribute [local irreducible] du ct aL cE dE dm dR dL bU dw dG bK bn bB eh eo
def kv (a:List (List Int))(n:Nat):List (List Int):=(a.take n).map fun l=>ee l l.length 0
theorem Zu {a}:kv a 0=[]:=rfl
theorem LA {a:List (List Int)}{n:Nat}(h:n<a.length):kv a (n+1)=kv a n++[ee a[n] a[n].length 0]:=by
 unfold kv;rw[zbi h,zb9];rfl
theorem DT {a:List (List Int)}{n:Nat}(h:n≤a.length):(kv a n).length=n:=by simp[kv,h]
theorem Lx {a:List (List Int)}{n:Nat}{z:Int}(b:z=(n:Int))(h:n<a.length):((kv a a.length).map cx)[z.toNat]? = some [aT (ee a[n] a[n].length 0)]:=by
 subst b;simp only[kv,zcI,zbt,zbC,zbf h];rfl
theorem LC {o:List Int}{L:Nat}{z w:Int}(h0:0≤z)(h:z.toNat≤L)(b:((cR o z.toNat:Nat):Int)=w):((ee o L 0).map fun n=>[i64 n])[z.toNat]? = some [i64 w]:=by
 have c:z.toNat<(ee o L 0).length:=by rw[qP];omega
 have a:=Zw (o:=o) h
 grind
theorem Ly {a:List (List Int)}{n:Nat}{z:Int}(b:z=(n:Int))(h:n<a.length):aZ z ((kv a a.length).map cx).length=true:=by
 rw[zba,DT (ag),hY];omega
theorem LD {o:List Int}{L:Nat}{z:Int}(h0:0≤z)(h:z.toNat≤L):aZ z ((ee o L 0).map fun n=>[i64 n]).length=true:=by
 rw[zba,qP,hY];omega
theorem zaa {i:Ins}(h:i.op=16):bP i=[]:=by unfold bP;grind
theorem sZ {i:Ins}{l:List Int}(h:bP i=l):af 73 [i.av] (fun a=>a = .ret (aT l)):=by subst h;exact sY i
attribute [local irreducible] kv
theorem Gf (c d:Cd)(a:List (List Int))(I:q0 c d a)(hc:cJ c)(hd:cJ d)(v:∀l∈a,l.length≤2000)(hfew:a.length≤1000):af 59 [.agg (c.cells++d.cells++[.ak 1 (a.map fun l=>[aT l])])] (fun ae=>ae = .ret (.bool true)):=by
 obtain⟨dp,g⟩:=d;obtain rfl:dp=c.p:=I.pr;have K:g.l.length=c.b.l.length:=I.lc;have N:a.length=c.b.l.length:=I.lo;have A:∀(q:Nat) (s:q<a.length) (V:q<g.l.length),a[q].length=g.l[q].ins.l.length:=fun q h X=>I.ol q X h
 have u:∀(q:Nat) (s:q<a.length) (U:q<c.b.l.length),a[q].filter fe=a_ c.b.l[q].ins.l.length:=fun q h Y=>I.uy q Y h
 have D:∀(q:Nat) (s:q<a.length) (V:q<g.l.length) (U:q<c.b.l.length) (p:Nat) (k:p<a[q].length) (P:p<g.l[q].ins.l.length),(a[q][p] = -1∧g.l[q].ins.l[p].op=3)∨∃n:Nat,n<c.b.l[q].ins.l.length∧a[q][p]=(n:Int):=fun q h X Y p k P=>by
  have:=I.row q Y X h p P;rw[ej k] at this;rcases this with r|⟨n,L,e,_⟩
  . exact .inl r
  . exact .inr ⟨n,L,e⟩
 have O:∀(q:Nat) (s:q<a.length) (p:Nat) (k:p<a[q].length),a[q][p] = -1∨∃n:Nat,a[q][p]=(n:Int):=fun q h p k=>by
  rcases D q h aa aa p k (by rw[<-A q h aa];exact k) with r|⟨n,_,e⟩
  . exact .inl r.1
  . exact .inr ⟨n,e⟩
 refine zw func59 ?_;refine zg ?_
 repeat' ((first|(refine DC.pure rfl (Xs c.p) ?_;rintro _ rfl)|(refine DC.pure rfl (Vn c ⟨c.p,g⟩ a K N v A D u) ?_;rintro _ rfl))<;>refine zg ?_)
 refine DW.aO aC aD [1,2,28] [] 2000 (fun x:{x:Nat×List (List Int) // x.2=kv a x.1∧x.1≤a.length}=>[(29,i64 x.1.1),(3,fu 1000 1 (x.1.2.map cx))]) (fun x=>fq 1000 1 (x.1.2.map cx)) [(1000,.slot 3)] (fun x=>a.length+1 - x.1.1) (⟨(0,[]),Zu.symm,zbq _⟩) ?_
 refine zl fun x=>?_
 rcases x with⟨⟨m,_|⟨y,H⟩⟩,F,w⟩
 . dsimp only at F w
   have i_len:=zbc length F;rw[DT w] at i_len;simp only[zbp] at i_len;refine zg ?_
   repeat' ((first|refine zf ?_|(refine zp ?_ ?_<;>intro h)|(refine DC.pure rfl (LG c ⟨c.p,g⟩ a m aa aa (v _ (za9 _)) (O m aa) (u m aa aa)) ?_;rintro _ rfl))<;>refine zg ?_)
   . (refine⟨⟨(m+1,[ee (a[m]'aa) (a[m]'aa).length 0]),(by rw[LA aa,<-F];rfl),aa⟩,NN,rfl,bH⟩)
   refine DW.aO aC aD [1,2,3,40,41] [] 0 (fun x:{q:Nat // q≤a.length}=>[(42,i64 x.1)]) (fun _=>[]) [] (fun x=>a.length - x.1) (⟨0,zbq _⟩) ?_
   refine zl fun x=>?_
   obtain⟨q,hq1⟩:=x;dsimp only;refine zg ?_
   repeat' ((refine zp ?_ ?_<;>first|exact⟨⟩|intro h)<;>refine zg ?_)
   all_goals exact⟨⟩
 . dsimp only at F w
   have i_len:=zbc length F;rw[DT w] at i_len;simp only[zbd] at i_len;refine zg ?_
   repeat' ((first|refine zf ?_|(refine Rq.mk (eP 24 2000 ag rfl rfl lQ ab) ?_)|(refine zp ?_ ?_<;>intro h)|(refine DC.pure rfl (LG c ⟨c.p,g⟩ a m aa aa (v _ (za9 _)) (O m aa) (u m aa aa)) ?_;rintro _ rfl))<;>refine zg ?_)
   . (refine⟨⟨(m+1,y::(H++[ee (a[m]'aa) (a[m]'aa).length 0])),(by rw[LA aa,<-F];rfl),aa⟩,NN,rfl,bH⟩)
   have hml:m=a.length:=aa;refine DW.ot 1000 (.arr 1 ((y::H).map cx)) [(1,_),(2,_),(3,(.ak 1 ((kv a a.length).map cx))),(40,_),(41,_),(42,_)] [(0,_)] rfl ⟨⟨_,rfl,.inl rfl⟩,⟨⟨_,rfl,.inl rfl⟩,⟨⟨_,rfl,.inr (by rw[show kv a a.length=y::H by rw[F,hml]];exact vm (f:=cx) (fun _=>rfl) rfl)⟩,⟨⟨_,rfl,.inl rfl⟩,⟨⟨_,rfl,.inl rfl⟩,⟨⟨_,rfl,.inl rfl⟩,trivial⟩⟩⟩⟩⟩⟩ ⟨⟨ab,_,rfl,.inl rfl⟩,trivial⟩ ?_
   refine DW.aO aC aD [1,2,3,40,41] [] 0 (fun x:{q:Nat // q≤a.length}=>[(42,i64 x.1)]) (fun _=>[]) [] (fun x=>a.length - x.1) (⟨0,zbq _⟩) ?_
   refine zl fun x=>?_
   obtain⟨q,hq1⟩:=x;dsimp only;rcases zbI q a.length with s|s
   . have z : q < g.l.length := aa
     have hqc:q<c.b.l.length:=aa;have hl:=A q s z;have hs2:=v _ (za9 s);refine zg ?_
     repeat' ((refine zp ?_ ?_<;>first|exact⟨⟩|intro h)<;>refine zg ?_)
     refine DW.aO aC aD [1,2,3,5,6,40,41,42,43,44,45,46,47,48] [] 0 (fun x:{p:Nat // p≤a[q].length}=>[(49,i64 x.1)]) (fun _=>[]) [] (fun x=>a[q].length - x.1) (⟨0,zbq _⟩) ?_
     refine zl fun x=>?_
     obtain⟨p,hp1⟩:=x;dsimp only;rcases zbI p a[q].length with k|k
     . have G : p < g.l[q].ins.l.length := aa
       have hr:=I.row q hqc z s p G;rw[ej k] at hr;rcases hr with⟨S,_⟩|⟨n,L,S,i,C,B⟩
       . refine zg ?_
         repeat' ((refine zp ?_ ?_<;>first|exact⟨⟩|intro h)<;>refine zg ?_)
         exact zi ⟨p+1,k⟩
       . have Z := hd.gQ z _ (za9 G)
         rcases j:bP g.l[q].ins.l[p] with _|⟨t',_|⟨t2,r⟩⟩
         . rw [j, map_nil] at C
           have o:=C.symm
           by_cases M:c.b.l[q].ins.l[n].op=16
           . have Q : g.l[q].ins.l[p].op = 16 := i.op.trans M
             obtain⟨g1,g2,g3,g4⟩:=lB hd.ok z (za9 G) Q;have J:g.l[q].ins.l[p].p=c.b.l[q].ins.l[n].p:=i.p;have B:=B M;have T:c.b.l[q].ins.l[n].p.toNat<a.length:=by rw[N,<-K,<-J];exact g1
             have g6:c.b.l[q].ins.l[n].p=((c.b.l[q].ins.l[n].p.toNat:Nat):Int):=aa;rw[show a.getD c.b.l[q].ins.l[n].p.toNat []=a[c.b.l[q].ins.l[n].p.toNat] by simp[getD,T]] at B
             have R:g.l[q].ins.l[p].n.toNat≤a[c.b.l[q].ins.l[n].p.toNat].length:=by
              rw[A _ T (by rw[<-J];exact g1)]
              simp only[J] at g4;exact Int.toNat_le.2 g4
             refine zk ?_
             repeat' ((first|refine az.mk _ (kS L S) ?_|refine Rq.mk (Ly g6 T) ?_|refine Rq.mk (LD g3 R) ?_|refine az.mk _ (Lx g6 T) ?_|refine az.mk _ (LC g3 R B) ?_|(refine zp ?_ ?_<;>first|exact⟨⟩|intro h)|refine az.mk _ (bO aa) ?_|(refine DC.pure rfl (Ai c.b.l[q].ins.l[n] g.l[q].ins.l[p] i) ?_;rintro _ rfl)|(refine zh rfl (sZ o) ?_;rintro _ rfl)|(refine zh rfl (sZ j) ?_;rintro _ rfl))<;>refine zk ?_)
             exact zi ⟨p+1,k⟩
           . refine zk ?_
             repeat' ((first|refine az.mk _ (kS L S) ?_|(refine zp ?_ ?_<;>first|exact⟨⟩|intro h)|refine az.mk _ (bO aa) ?_|(refine DC.pure rfl (Ai c.b.l[q].ins.l[n] g.l[q].ins.l[p] i) ?_;rintro _ rfl)|(refine zh rfl (sZ o) ?_;rintro _ rfl)|(refine zh rfl (sZ j) ?_;rintro _ rfl))<;>refine zk ?_)
             exact zi ⟨p+1,k⟩
         . rw [j, zcq, map_nil] at C
           have o:=C.symm;have cF:c.b.l[q].ins.l[n].op≠16:=fun h=>by rw[zaa h] at o;cases o
           have E:=Z.t t' (by rw[j];exact zck)
           have R:t'.toNat≤a[q].length:=by rw[hl];exact Int.toNat_le.2 E.2
           refine zk ?_
           repeat' ((first|refine az.mk _ (kS L S) ?_|refine Rq.mk (Ly rfl s) ?_|refine Rq.mk (LD E.1 R) ?_|refine az.mk _ (Lx rfl s) ?_|refine az.mk _ (LC E.1 R rfl) ?_|(refine zp ?_ ?_<;>first|exact⟨⟩|intro h)|refine az.mk _ (bO aa) ?_|(refine DC.pure rfl (Ai c.b.l[q].ins.l[n] g.l[q].ins.l[p] i) ?_;rintro _ rfl)|(refine zh rfl (sZ o) ?_;rintro _ rfl)|(refine zh rfl (sZ j) ?_;rintro _ rfl)|refine zo ?_)<;>refine zk ?_)
           exact zi ⟨p+1,k⟩
         . have := @zn g.l[q].ins.l[p]
           rw[j] at this;simp at this
     . refine zg ?_
       repeat' ((refine zp ?_ ?_<;>first|exact⟨⟩|intro h)<;>refine zg ?_)
       exact zi ⟨q+1,s⟩
   . refine zg ?_
     repeat' ((refine zp ?_ ?_<;>first|exact⟨⟩|intro h)<;>refine zg ?_)
     all_goals exact⟨⟩
end Go.Ago
end
