/-
  Part B43: lemmas, each with its own conditions.
-/
import Derived.Test.YthaolifcglpkdaaGreatDoorB42
set_option maxRecDepth 100000
set_option maxHeartbeats 0
set_option linter.all false
namespace Go.Ago
open Go.Proofs List Nat Tryz
attribute [local irreducible] bA bw aV bp bG wr aZ bF comp DC DP DW DV
attribute [local irreducible] fF ei fP jY dQ ga i_ bM bP aY aH
attribute [local irreducible] du ct aL cE dE dm dR dL bU dw dG bK bn bB eh eo
abbrev Di:List AV:=[.cK [],.bool true,.ai]
abbrev Ds:List AV:=[.fS,.bool false,.ai]
def gi (L n:Nat):List (List AV):=replicate n Di++replicate (L - n) Ds
theorem NQ {n L k:Nat}:an.lt n (.arr 3 (gi L k)):=by
 show(List.all _ _)=true;unfold gi;rw[all_append,all_replicate,all_replicate];simp[AV.l1,AV.la,AV.l0]
theorem za6 {ρ:Nat->Nat}{L m:Nat}(h:m=L):an.arr 3 (replicate m Ds)=an.cp ρ (.arr 3 (gi L 0)):=by
 subst h;simp only[an.cp,gi,replicate_zero,nil_append,Nat.sub_zero,map_replicate];rfl
theorem za3 {L n:Nat}(h:n<L):(gi L n)[0+((n:Int)).toNat]? = some Ds:=by
 unfold gi;rw[zce,zbt,zbv ag,zcg,if_pos eE]
theorem za2 {L n:Nat}(h:n<L):(gi L n).set (0+((n:Int)).toNat) Di=gi L (n+1):=by
 unfold gi;rw[zce,zbt,set_append_right _ _ ag,zcm,zcB,show L - n=(L - (n+1))+1 by omega,replicate_succ,set_cons_zero,replicate_succ',zch]
 rfl
theorem za5 {nm:Nat}:snap (.put nm (some (.mp [])) .nil) 20 (.cX nm)=some (.cK []):=y6 (n:=17) (by rw[Tr.get,zcK];rfl) gy
theorem za1 {nm L n:Nat}(h:n<L):iu nm (.mp []) (.arr 3 ((gi L n).set (0+((n:Int)).toNat) [.cX nm,.bool true,.ai])) (.arr 3 (gi L (n+1))):=by
 rw[<-za2 h];refine .inr ⟨3,_,_,rfl,rfl,ag,fun i f hf=>?_⟩
 rw[zce,zbt] at hf ⊢;have hL:(gi L n).length=L:=by simp[gi];omega
 by_cases hi:i=n
 . subst hi
   rw[zci aa] at hf ⊢;cases hf;refine⟨_,rfl,rfl,fun j y hj=>?_⟩
   match j,hj with
   | 0,hj=>cases hj;exact⟨_,rfl,.inr za5⟩
   | 1,hj=>cases hj;exact⟨_,rfl,.inl rfl⟩
   | 2,hj=>cases hj;exact⟨_,rfl,.inl rfl⟩
   | j+3,hj=>simp at hj
 . rw [zbV (fun e => hi e.symm)] at hf ⊢
   exact⟨f,hf,rfl,fun j y hj=>⟨y,hj,.inl rfl⟩⟩
theorem za4 {ρ:Nat->Nat}{L n:Nat}:an.arr 3 (gi L n)=an.cp ρ (.arr 3 (gi L n)):=by
 simp only[an.cp,gi,zb9,map_replicate];rfl
theorem za7 {L n:Nat}(h:n=L):rp (.arr 3 (gi L n)) (iG (replicate L cb)):=by
 subst h;have e1:gi n n=replicate n Di:=by simp[gi]
 have e2:(replicate n cb).map Hd.row=replicate n cb.row:=ag;refine .inr ⟨3,_,_,rfl,rfl,by simp[gi],fun i e e' he he'=>?_⟩
 rw[e1,zcg] at he;rw[e2,zcg] at he';split at he
 . rename_i hi
   rw[if_pos hi] at he';cases he;cases he';refine⟨rfl,fun j x y hx hy=>?_⟩
   match j,hx,hy with
   | 0,hx,hy=>cases hx;cases hy;exact Told.r
   | 1,hx,hy=>cases hx;cases hy;exact Told.r
   | 2,hx,hy=>cases hx;cases hy;exact Told.nil
   | j+3,hx,hy=>simp at hx
 . cases he
theorem Ht {d:Cd}{p:Int}{g:Gr}(hg:cZ d p g):g.ins.l.length≤bK d.b.l:=by
 obtain⟨g1,g2,_⟩:=hg;rw[g2];exact ki (za9 g1)
theorem IV {n b s:Nat}(h:n≤10000)(hb:b≤1000)(hs:blt 0 s=true):(decide (0≤wr .i64 ((n:Int)+1)) && decide (wr .i64 ((n:Int)+1)≤wr .i64 ((n:Int)+1)) && decide (wr .i64 ((n:Int)+1)≤9223372036854775807) && decide ((b:Int) * wr .i64 ((n:Int)+1)≤140737488355328) && blt 0 s)=true:=by
 have e:wr .i64 ((n:Int)+1)=((n+1:Nat):Int):=by rw[aE aa aa];omega
 have h3:b * (n+1)≤1000 * 10001:=Nat.mul_le_mul hb aa;have h4:(b:Int) * ((n+1:Nat):Int)≤140737488355328:=by rw[<-Int.natCast_mul];omega
 rw[e,hs,zbF (p:=(0:Int)≤((n+1:Nat):Int)) aa,zbF (p:=((n+1:Nat):Int)≤((n+1:Nat):Int)) (Int.le_refl _),zbF (p:=((n+1:Nat):Int)≤9223372036854775807) aa,zbF h4];rfl
abbrev NZ (sk:Sk):Type:={x:List Hd×Bool // ∃j,x.1=i_ sk j∧(x.2=false->ga sk x.1=(x.1,false))}
def xL (M N:Nat)(x:List Hd×Bool):Nat:=if x.2=true then sO M N x.1+1 else 0
theorem nE {n:Nat}{X:List Hd}:an.lt n (iG X):=ve
theorem nF {ρ:Nat->Nat}{X Y:List Hd}(h:X=Y):iG X=an.cp ρ (iG Y):=by
 subst h;simp only[an.cp,zcz]
 congr 1
theorem oa {ρ:Nat->Nat}{a b:Bool}(h:a=b):AV.bool a=AV.r2 ρ (.bool b):=by rw[h];rfl
theorem T8 {C:List Ins}{o:List Int}{g:Gr}:replicate (g.ins.l.length+1) cb=i_ (bM C o g) 0:=by
 unfold i_ uI;rw[kT]
structure tK (g:Gr):Prop where
 eT:g.ins.l.length≤2000∧g.entries.l.length≤2000
 iU:∀k,k≤g.ins.l.length->∀t∈aY g k,0≤t∧t≤(g.ins.l.length:Int)
theorem OB (g:Gr)(h:tK g):af 84 [g.av,i64 ((g.ins.l.map Ins.cells).length:Nat)] (fun ae=>ae = .ret (aT g.entries.l)):=by
 have h1:=h.eT;have:=Aq g ⟨aa,aa⟩ g.ins.l.length (zbm _);rw[An rfl] at this;rw[zba];exact this
theorem OC {g:Gr}(h:tK g)(k:Nat):(aY g k).length≤2001:=by
 have h1:=h.eT.2;unfold aY;split
 . rename_i hk
   have:=@zn g.ins.l[k];split
   . omega
   . rw[zbk];omega
 . omega
theorem Zd {H:aj}{n:Nat}{X:List Hd}:aM (aM (snap H (n+1))) (X.map Hd.row)=some (X.map Hd.row):=by
 induction X with
 | nil=>rfl
 | cons x X ih =>
   have h1:aM (snap H (n+1)) x.row=some x.row:=rfl;exact da h1 ih
theorem Zb {H:aj}{X:List Hd}{L:Nat}(hL:L=X.length)(hH:H.get 12=some (iG X)):snap H 20 (.ay 12 0 L 3)=some (.ak 3 (X.map Hd.row)):=by
 subst hL;refine oZ (n:=19) hH ag ?_;rw[zcV,zbj ag];exact Zd
theorem yH {X:List Hd}{a:Int}{n:Nat}(ha:a=(n:Int))(h:n<X.length):(X.map Hd.row)[0+a.toNat]? = some (X.getD n cb).row:=by
 subst ha;rw[Ko h,ej h]
theorem kS {α:Type}{f:α->List AV}{l:List α}{z:Int}{k:Nat}(hk:k<l.length)(h:z=(k:Int)):(l.map f)[z.toNat]? = some (f l[k]):=by subst h;exact bO hk
theorem Ep {n:Nat}(h:n≤1000000):wr .i64 ((n:Int)+1)=((n+1:Nat):Int):=by rw[aE aa aa];omega
theorem uL {X:List (List AV)}{L:Nat}{j:Nat}{o:an}(e:(Tr.put 12 (some (.arr 3 X)) (.put 13 (some (.arr 1 [[.ay 12 0 L 3]])) .nil):aj).get j=some o):(j=12∧o = .arr 3 X)∨(j=13∧o = .arr 1 [[.ay 12 0 L 3]]):=by
 rw[Tr.get] at e;cases b:beq j 12 with
 | true=>rw[b] at e;exact .inl ⟨zbl b,by cases e;rfl⟩
 | false =>
   rw[b] at e;simp only[zb0] at e;rw[Tr.get] at e;cases b:beq j 13 with
   | true=>rw[b] at e;exact .inr ⟨zbl b,by cases e;rfl⟩
   | false=>rw[b] at e;cases e
theorem xt {X:List Hd×Bool}{a:Int}{n:Nat}{u:Hd}{H:aj}{nx L:Nat}{R:AE->aj->Nat->Prop}(ha:a=(n:Int))(hn:n<X.1.length)(hl:X.1.length≤100000)(hL:L=X.1.length)(hX:(X.1.getD n cb).iP)(hf:u.iP)(h12:H.get 12=some (iG X.1))(h13:H.get 13=some (.arr 1 [[.ay 12 0 L 3]]))
 (hR:R (.ret (.bool ((X.1.getD n cb).dz u))) (bo.dK H [(12,some (iG (fF X n u).1))]) nx):cM 113 [i64 a,u.av,.ptr 13 0 0] H nx R:=by
 subst ha hL;rw[ej hn] at hX hR;have hi:(fF X n u).1=if X.1[n].dz u=true then X.1.set n (X.1[n].mt u) else X.1:=by
  obtain⟨Y,b⟩:=X;rw[H6 hn]
 rw[hi] at hR;refine DC.qV (k:=12) (H5 X.1 hl n hn u hX hf) rfl (fun j o e=>?_) ab fun ae H' nx' hh=>?_
 . rcases uL e with ⟨rfl, rfl⟩ | ⟨rfl, rfl⟩
   . exact⟨ab,h12,ve⟩
   . exact⟨ab,h13,rfl⟩
 . obtain ⟨rfl, h2, h3⟩ := hh
   refine⟨_,_,rfl,rfl,⟨_,rfl⟩,h2,ve,fun j o hj e=>?_,hR⟩
   rcases uL e with⟨rfl,rfl⟩|⟨rfl,rfl⟩
   . exact absurd rfl hj
   . exact h3
theorem T1 {X:List Hd×Bool}{a:Int}{n nm:Nat}{u:Hd}{H:aj}{L:Nat}{R:AV->List (Nat×Option an)->List Nat->Prop}(ha:a=(n:Int))(hn:n<X.1.length)(hl:X.1.length≤100000)(hL:L=X.1.length)(hX:(X.1.getD n cb).iP)(hf:u.iP)(h12:H.get 12=some (iG X.1))(h13:H.get 13=some (.arr 1 [[.ay 12 0 L 3]]))
 (hR:R (.bool ((X.1.getD n cb).dz u)) [(12,some (iG (fF X n u).1))] [12,13]):DV prog fB nm (.fn (.func 113) [] [.ptr 13 0 0]) [i64 a,u.av] H R:=by
 subst ha hL;rw[ej hn] at hX hR;have hi:(fF X n u).1=if X.1[n].dz u=true then X.1.set n (X.1[n].mt u) else X.1:=by
  obtain⟨Y,b⟩:=X;rw[H6 hn]
 rw[hi] at hR;refine DV.qV (k:=12) [12,13] (H5 X.1 hl n hn u hX hf) rfl (fun j o e=>?_) (fun j o e=>?_) ab fun ae H' nx' hh=>?_
 . rcases uL e with ⟨rfl, rfl⟩ | ⟨rfl, rfl⟩
   . exact⟨ab,h12,ve⟩
   . exact⟨ab,h13,rfl⟩
 . rcases uL e with ⟨rfl, rfl⟩ | ⟨rfl, rfl⟩
   . exact zck
   . exact zbO _ zck
 . obtain ⟨rfl, h2, h3⟩ := hh
   refine⟨_,_,rfl,rfl,⟨_,rfl⟩,h2,ve,fun j o hj e=>?_,hR⟩
   rcases uL e with⟨rfl,rfl⟩|⟨rfl,rfl⟩
   . exact absurd rfl hj
   . exact h3
set_option maxHeartbeats 40000000 in
theorem Th (c d:Cd)(of:List (List Int))(q:Nat)(hs:bK d.b.l≤2000)(hq:q<d.b.l.length)(hqc:q<c.b.l.length)(hqo:q<of.length)(M N:Nat)(hN:N≤1001)(hfit:∀g,cZ d q g->(bM c.b.l[q].ins.l of[q] g).Ok M N∧(bM c.b.l[q].ins.l of[q] g).Pl∧tK g)(hol:of[q].length=d.b.l[q].ins.l.length)(hrow:∀p (hp:p<of[q].length),of[q][p] = -1∨∃n:Nat,n<c.b.l[q].ins.l.length∧of[q][p]=(n:Int)):af 62 [.agg (c.cells++d.cells++[.ak 1 (of.map fun l=>[aT l])]),i64 q] (fun ae=>∃g X,ae = .ret (.ak 3 (X.map Hd.row))∧cZ d q g∧gk (bM c.b.l[q].ins.l of[q] g) X):=by
 refine zw func62 ?_;refine zg ?_
 repeat' ((first|(refine Rq.mk (IV (by rw[zba];exact zbu (Ht hg) aa) ab ab) ?_)|(refine DC.pure rfl (Hv d q aa ⟨aa,aa⟩) ?_;rintro _ ⟨g,rfl,hg⟩))<;>refine zg ?_)
 have hgl:=zbu (Ht hg) hs;have hwL:wr .i64 ((g.ins.l.length:Int)+1)=((g.ins.l.length+1:Nat):Int):=by rw[aE aa aa];omega
 refine DW.Ct aC aD [1,2,4,5,6,29] [12] 0 (fun x:{n:Nat // n≤g.ins.l.length+1}=>[(30,i64 x.1)]) (fun x=>[(12,.arr 3 (gi (g.ins.l.length+1) x.1))]) [] (fun x=>g.ins.l.length+2 - x.1) (⟨0,zbq _⟩) ?_
 conv=>whnf
 refine⟨?_,fun x=>?_⟩
 . conv => whnf
   (repeat' first|exact True.intro|apply And.intro|rfl|exact NQ|(refine cw ?_ ?_ ?_<;>(try dsimp only)<;>omega)|exact zbc (AV.int .i64) cV)
   exact za6 (by rw[zba,hwL];rfl)
 have hx:=x.2;refine zk ?_
 repeat' ((first|(refine zp ?_ ?_<;>first|exact⟨⟩|intro h)|(refine bR (za3 (n:=x.1) (by first|omega|(have h9:=hwL;simp only[zba] at *;omega))) ?_))<;>refine zk ?_)
 . have hlt : x.1 < g.ins.l.length + 1 := aa
   refine⟨⟨x.1+1,hlt⟩,_,iQ.z 23 (.mp []) [(1,_),(2,_),(4,_),(5,_),(6,_),(29,_),(30,_)] [(0,_),(6,_),(12,.arr 3 (gi (g.ins.l.length+1) (x.1+1))),(13,_)] rfl ⟨⟨_,rfl,.inl rfl⟩,⟨_,rfl,.inl rfl⟩,⟨_,rfl,.inl rfl⟩,⟨_,rfl,.inl rfl⟩,⟨_,rfl,.inl rfl⟩,⟨_,rfl,.inl rfl⟩,⟨_,rfl,.inl rfl⟩,trivial⟩ ⟨⟨ab,_,rfl,.inl rfl⟩,⟨ab,_,rfl,.inl rfl⟩,⟨ab,_,rfl,za1 hlt⟩,⟨ab,_,rfl,.inl rfl⟩,trivial⟩,?_,rfl,bH⟩
   conv=>whnf
   (repeat' first|exact True.intro|apply And.intro|rfl|exact NQ|exact za4|(refine cw ?_ ?_ ?_<;>(try dsimp only)<;>omega)|exact zbc (AV.int .i64) cV)
 have hxe:x.1=g.ins.l.length+1:=aa;refine DW.told [(1,_),(2,_),(4,_),(5,_),(6,_),(8,_),(9,_)] [(0,_),(6,_),(12,iG (replicate (g.ins.l.length+1) cb)),(13,_)] ⟨⟨_,rfl,Told.r⟩,⟨_,rfl,Told.r⟩,⟨_,rfl,Told.r⟩,⟨_,rfl,Told.r⟩,⟨_,rfl,Told.r⟩,⟨_,rfl,Told.r⟩,⟨_,rfl,Told.r⟩,trivial⟩ ⟨⟨_,rfl,.inl rfl⟩,⟨_,rfl,.inl rfl⟩,⟨_,rfl,za7 hxe⟩,⟨_,rfl,.inl rfl⟩,trivial⟩ ?_
 conv=>whnf
 obtain⟨hsk,hpl,hgf⟩:=hfit g hg;have hfew:=hgf.eT;refine DW.aO aC aD [1,2,4,5,6,8] [12] 0 (fun x:NZ (bM c.b.l[q].ins.l of[q] g)=>[(9,.bool x.1.2)]) (fun x=>[(12,iG x.1.1)]) [] (fun x=>xL M N x.1) (⟨(i_ (bM c.b.l[q].ins.l of[q] g) 0,true),0,rfl,fun h=>by cases h⟩) ?_
 conv=>whnf
 refine⟨?_,fun x=>?_⟩
 . conv => whnf
   (repeat' first|exact True.intro|apply And.intro|rfl|exact nF T8|exact nE|(refine cw ?_ ?_ ?_<;>(try dsimp only)<;>omega)|exact zbc (AV.int .i64) cV)
 obtain⟨j,hj,hfin⟩:=x.2;have hlen:x.1.1.length=g.ins.l.length+1:=by rw[hj,uN,kT]
 have hok:gY M N x.1.1:=by rw[hj];exact xw hsk hpl
 have hsl:(bM c.b.l[q].ins.l of[q] g).st.length=g.ins.l.length:=kT;have hse:(bM c.b.l[q].ins.l of[q] g).fw=g.entries.l:=by unfold bM;rfl
 have hgi:g.ins.l.length=d.b.l[q].ins.l.length:=by obtain⟨_,g2,_⟩:=hg;simp only[g2,zbt]
 have hase:aY g g.ins.l.length=g.entries.l:=An rfl;refine zg ?_
 repeat' ((first|(refine zp ?_ ?_<;>first|exact⟨⟩|intro h)|(refine DC.pure rfl (OB g hgf) ?_;rintro _ rfl))<;>refine zg ?_)
 . have hA:∀m,m≤g.entries.l.length->gY M N (ei (x.1.1,false) g.ins.l.length (g.entries.l.take m)).1∧(ei (x.1.1,false) g.ins.l.length (g.entries.l.take m)).1.length=g.ins.l.length+1:=fun m hm=>by
    rw[tZ];refine⟨(tY (X:=(x.1.1,false)) hok fun t ht=>?_).2,hlen⟩
    have:t.toNat≤(bM c.b.l[q].ins.l of[q] g).st.length:=hpl.fw t (show t∈(bM c.b.l[q].ins.l of[q] g).fw by unfold bM;exact zcU ht)
    dsimp only;omega
   refine DW.aO aC aD [1,2,4,5,6,8,41,42,43,44,45,46,47] [12] 0 (fun m:{m:Nat // m≤g.entries.l.length}=>[(48,i64 m.1),(9,.bool (ei (x.1.1,false) g.ins.l.length (g.entries.l.take m.1)).2)]) (fun m=>[(12,iG (ei (x.1.1,false) g.ins.l.length (g.entries.l.take m.1)).1)]) [] (fun m=>g.entries.l.length - m.1) (⟨0,zbq _⟩) ?_
   conv=>whnf
   refine⟨?_,fun m=>?_⟩
   . conv => whnf
     (repeat' first|exact True.intro|apply And.intro|rfl|(refine nF ?_;exact Oz.symm)|(refine oa ?_;exact OA.symm)|exact nE|(refine cw ?_ ?_ ?_<;>(try dsimp only)<;>omega)|exact zbc (AV.int .i64) cV)
   obtain⟨hAok,hAl⟩:=hA m.1 m.2;have hent:∀(h:m.1<g.entries.l.length),g.entries.l[m.1]=((g.entries.l[m.1].toNat:Nat):Int)∧g.entries.l[m.1].toNat<g.ins.l.length+1:=fun h=>by
    have:=hgf.iU g.ins.l.length (zbm _) g.entries.l[m.1] (by rw[hase];exact za9 h)
    omega
   conv=>whnf
   repeat' first
    | (refine Rq.mk kW ?_;conv=>whnf)
    | (refine Br.split (fun h=>?_) (fun h=>?_)<;>(try simp only[bz] at h)<;>first|(exfalso;omega)|(conv=>whnf))
    | (refine pM (fun h=>?_) (fun h=>?_)<;>(try simp only[bz] at h)<;>first|(exfalso;omega)|(conv=>whnf))
    | (refine az.mk _ (bO aa) ?_;conv=>whnf)
    | (refine bR (yH (n:=g.ins.l.length) (by first|rfl|rw[zba]) (by rw[hAl];omega)) ?_;conv=>whnf)
    | (refine xt (X:=(ei (x.1.1,false) g.ins.l.length (g.entries.l.take m.1))) (n:=_) (u:=(ei (x.1.1,false) g.ins.l.length (g.entries.l.take m.1)).1.getD g.ins.l.length cb) (hent aa).1 (by rw[hAl];exact(hent aa).2) aa (by rw[hAl,zba,hwL];rfl) ((hAok.get _).kd hN) ((hAok.get _).kd hN) rfl rfl ?_)
   iterate 3
    . have hlt : m.1 < g.entries.l.length := aa
      (refine⟨⟨m.1+1,hlt⟩,(by(conv=>whnf);(repeat' first|exact True.intro|apply And.intro|rfl|(refine nF ?_;rw[vY hlt])|(refine oa ?_;(rw[vY hlt];first|exact(uM bD).symm|exact((uK bD).trans bD).symm))|exact nE|(refine cw ?_ ?_ ?_<;>(try dsimp only)<;>omega)|exact zbc (AV.int .i64) cV)),rfl,eY⟩)
   have hst0:(dQ (bM c.b.l[q].ins.l of[q] g) x.1.1 0)=(ei (x.1.1,false) g.ins.l.length (g.entries.l.take m.1)):=by
    rw[ZF,hsl,hse,Ao aa]
   have hB:∀n,n≤g.ins.l.length->gY M N (dQ (bM c.b.l[q].ins.l of[q] g) x.1.1 n).1∧(dQ (bM c.b.l[q].ins.l of[q] g) x.1.1 n).1.length=g.ins.l.length+1:=fun n hn=>by
    rw[y9];exact⟨(y8 hsk hpl hok (by rw[hlen,hsl]) (by rw[hsl];exact hn)).2,hlen⟩
   refine DW.aO aC aD [1,2,4,5,6,8,11,41,42,43,44,45,46,47,48,49,50,51,52,53,54,55,56,57,58,59,60,61,62,63,64,65,66,67] [12] 0 (fun n:{n:Nat // n≤g.ins.l.length}=>[(68,i64 n.1),(9,.bool (dQ (bM c.b.l[q].ins.l of[q] g) x.1.1 n.1).2)]) (fun n=>[(12,iG (dQ (bM c.b.l[q].ins.l of[q] g) x.1.1 n.1).1)]) [] (fun n=>g.ins.l.length - n.1) (⟨0,zbq _⟩) ?_
   conv=>whnf
   refine⟨?_,fun n=>?_⟩
   . conv => whnf
     (repeat' first|exact True.intro|apply And.intro|rfl|(refine nF ?_;exact zbc Prod.fst hst0.symm)|(refine oa ?_;exact zbc Prod.snd hst0.symm)|exact nE|(refine cw ?_ ?_ ?_<;>(try dsimp only)<;>omega)|exact zbc (AV.int .i64) cV)
   obtain⟨hBok,hBl⟩:=hB n.1 n.2;rcases zbI n.1 g.ins.l.length with hn|hn
   . have hno : n.1 < of[q].length := by rw [hol, <-hgi]; exact hn
     rcases hrow n.1 hno with h0|⟨k,hk,h0⟩
     . have hmv := hsk _ (zby (DJ (C := c.b.l[q].ins.l) hn (by rw [ej hno]; exact h0)))
       have dy:=ZD (X:=(dQ (bM c.b.l[q].ins.l of[q] g) x.1.1 n.1)) (DJ (C:=c.b.l[q].ins.l) hn (by rw[ej hno];exact h0))
       refine zk ?_
       repeat' ((first|(refine zp ?_ ?_<;>first|exact⟨⟩|intro h)|refine az.mk _ (bO aa) ?_|(refine zh rfl (V0 ((dQ (bM c.b.l[q].ins.l of[q] g) x.1.1 n.1).1.getD n.1 cb) ((hBok.get _).kd hN) _ _) ?_;rintro _ rfl)|(refine bR (yH (n:=n.1) (by first|rfl|rw[zba]) (by rw[hBl];omega)) ?_)|(refine T1 (X:=(dQ (bM c.b.l[q].ins.l of[q] g) x.1.1 n.1)) (n:=n.1+1) (u:=((dQ (bM c.b.l[q].ins.l of[q] g) x.1.1 n.1).1.getD n.1 cb).move g.ins.l[n.1].d g.ins.l[n.1].a) (Ep aa) (by rw[hBl];omega) aa (by rw[hBl,zba,hwL];rfl) ((hBok.get _).kd hN) (((hBok.get _).move hmv).kd hN) rfl rfl ?_))<;>refine zk ?_)
       all_goals (refine⟨⟨n.1+1,hn⟩,(by(conv=>whnf);(repeat' first|exact True.intro|apply And.intro|rfl|(refine nF ?_;rw[qQ,dy])|(refine oa ?_;(rw[qQ,dy];first|exact(uM bD).symm|exact((uK bD).trans bD).symm))|exact nE|(refine cw ?_ ?_ ?_<;>(try dsimp only)<;>omega)|exact zbc (AV.int .i64) cV)),rfl,eY⟩)
     . have hso := hsk _ (zby (DK (C := c.b.l[q].ins.l) hn hk (by rw [ej hno]; exact h0)))
       have dy:=ZE (X:=(dQ (bM c.b.l[q].ins.l of[q] g) x.1.1 n.1)) (DK (C:=c.b.l[q].ins.l) hn hk (by rw[ej hno];exact h0))
       rw[DH hn] at dy;have hFok:=(GO (p:=n.1) hBok hso (by rw[hBl];omega)).2
       have hFl:(fP (dQ (bM c.b.l[q].ins.l of[q] g) x.1.1 n.1) n.1 (decide (cS g.ins.l[n.1])) (aH c.b.l[q].ins.l[k]) (aH g.ins.l[n.1])).1.length=g.ins.l.length+1:=by rw[Bp,hBl]
       have hXf:=(hBok.get n.1).kd hN;have hC:∀m,gY M N (ei (fP (dQ (bM c.b.l[q].ins.l of[q] g) x.1.1 n.1) n.1 (decide (cS g.ins.l[n.1])) (aH c.b.l[q].ins.l[k]) (aH g.ins.l[n.1])) n.1 ((aY g n.1).take m)).1∧(ei (fP (dQ (bM c.b.l[q].ins.l of[q] g) x.1.1 n.1) n.1 (decide (cS g.ins.l[n.1])) (aH c.b.l[q].ins.l[k]) (aH g.ins.l[n.1])) n.1 ((aY g n.1).take m)).1.length=g.ins.l.length+1:=fun m=>by
        rw[tZ];refine⟨(tY hFok fun t ht=>?_).2,hFl⟩
        have:=hgf.iU n.1 aa t (zcU ht);rw[hFl];omega
       have hCe:∀(m:Nat) (h:m<(aY g n.1).length),(aY g n.1)[m]=(((aY g n.1)[m].toNat:Nat):Int)∧(aY g n.1)[m].toNat<g.ins.l.length+1:=fun m h=>by
        have:=hgf.iU n.1 aa (aY g n.1)[m] (za9 h);omega
       conv=>whnf
       repeat' first
        | (refine az.mk _ (kS hk h0) ?_;conv=>whnf)
        | (refine Rq.mk (b:=gJ _ _ _ _ _ _) aG ?_;conv=>whnf)
        | (refine Rq.mk kW ?_;conv=>whnf)
        | (refine Br.split (fun h=>?_) (fun h=>?_)<;>(try simp only[bz] at h)<;>first|(exfalso;omega)|(conv=>whnf))
        | (refine pM (fun h=>?_) (fun h=>?_)<;>(try simp only[bz] at h)<;>first|(exfalso;omega)|(conv=>whnf))
        | (refine az.mk _ (bO aa) ?_;conv=>whnf)
        | (refine DC.pure rfl (wV g.ins.l[n.1]) ?_;rintro _ (⟨rfl,hf⟩|⟨rfl,hf⟩)<;>conv=>whnf)
        | (refine DC.pure rfl (oY g.ins.l[n.1]) ?_;rintro _ rfl<;>conv=>whnf)
        | (refine DV.pure rfl (oY c.b.l[q].ins.l[k]) ?_;rintro _ rfl<;>refine⟨_,rfl,?_⟩<;>conv=>whnf)
        | (refine DV.pure rfl (Yy ((dQ (bM c.b.l[q].ins.l of[q] g) x.1.1 n.1).1.getD n.1 cb) hXf (aH c.b.l[q].ins.l[k]) (aH g.ins.l[n.1])) ?_;rintro _ rfl<;>refine⟨_,rfl,?_⟩<;>conv=>whnf)
        | (refine DC.pure rfl (Aq g ⟨aa,aa⟩ n.1 aa) ?_;rintro _ rfl<;>conv=>whnf)
        | (refine And.intro (a:=iX _=true) aG (kZ.e ?_);conv=>whnf)
        | (refine bR (yH (n:=n.1) (by first|rfl|rw[zba]) (by rw[hBl];omega)) ?_;conv=>whnf)
        | (refine xt (X:=(dQ (bM c.b.l[q].ins.l of[q] g) x.1.1 n.1)) (n:=n.1+1) (u:=((dQ (bM c.b.l[q].ins.l of[q] g) x.1.1 n.1).1.getD n.1 cb).set (aH c.b.l[q].ins.l[k]) (aH g.ins.l[n.1])) (Ep aa) (by rw[hBl];omega) aa (by rw[hBl,zba,hwL];rfl) ((hBok.get _).kd hN) (((hBok.get _).set (hso aa).1 ⟨aa,(hso aa).2⟩).kd hN) rfl rfl ?_)
        | (refine xt (X:=(dQ (bM c.b.l[q].ins.l of[q] g) x.1.1 n.1)) (n:=n.1+1) (u:=(dQ (bM c.b.l[q].ins.l of[q] g) x.1.1 n.1).1.getD n.1 cb) (Ep aa) (by rw[hBl];omega) aa (by rw[hBl,zba,hwL];rfl) ((hBok.get _).kd hN) hXf rfl rfl ?_)
       all_goals
        refine DW.aO aC aD [1,2,4,5,6,8,11,12,13,14,15,16,41,42,43,44,45,46,47,48,49,50,51,52,53,54,55,56,57,58,59,60,61,62,63,64,65,66,67,68,69,70,71,72,73,74,75,76,77,78,79,80,81,82,83,84,85,86,87,88,89,90,91,92,93,94,95,96,97,98,99,100,101,102,103,104,105,106,107,108,109,110,111,112,113,114,115,116,117,118,119,120,121,122,123,124,125,126,127,128,129,130,131,132,133,134] [12] 0 (fun m:{m:Nat // m≤(aY g n.1).length}=>[(135,i64 m.1),(9,.bool (ei (fP (dQ (bM c.b.l[q].ins.l of[q] g) x.1.1 n.1) n.1 (decide (cS g.ins.l[n.1])) (aH c.b.l[q].ins.l[k]) (aH g.ins.l[n.1])) n.1 ((aY g n.1).take m.1)).2)]) (fun m=>[(12,iG (ei (fP (dQ (bM c.b.l[q].ins.l of[q] g) x.1.1 n.1) n.1 (decide (cS g.ins.l[n.1])) (aH c.b.l[q].ins.l[k]) (aH g.ins.l[n.1])) n.1 ((aY g n.1).take m.1)).1)]) [] (fun m=>(aY g n.1).length - m.1) (⟨0,zbq _⟩) ?_
        conv=>whnf
        refine⟨(by(conv=>whnf);(repeat' first|exact True.intro|apply And.intro|rfl|(refine nF ?_;(refine Eq.trans ?_ (zbc Prod.fst (E2 (X:=(fP (dQ (bM c.b.l[q].ins.l of[q] g) x.1.1 n.1) n.1 (decide (cS g.ins.l[n.1])) (aH c.b.l[q].ins.l[k]) (aH g.ins.l[n.1])))).symm);first|rw[zbF hf,GR (a:=aH g.ins.l[n.1]) aa]|rw[zbF hf,GQ (a:=aH g.ins.l[n.1]) aa]|rw[zbT hf,GP]))|(refine oa ?_;(refine Eq.trans ?_ (zbc Prod.snd (E2 (X:=(fP (dQ (bM c.b.l[q].ins.l of[q] g) x.1.1 n.1) n.1 (decide (cS g.ins.l[n.1])) (aH c.b.l[q].ins.l[k]) (aH g.ins.l[n.1])))).symm);first|(rw[zbF hf,GR (a:=aH g.ins.l[n.1]) aa];first|exact(uM bD).symm|exact((uK bD).trans bD).symm)|(rw[zbF hf,GQ (a:=aH g.ins.l[n.1]) aa];first|exact(uM bD).symm|exact((uK bD).trans bD).symm)|rw[zbT hf,GP]))|exact nE|(refine cw ?_ ?_ ?_<;>(try dsimp only)<;>omega)|exact zbc (AV.int .i64) cV)),fun m=>?_⟩
        have hAok:=(hC m.1).1;have hAl:=(hC m.1).2;have hAe:=hCe m.1;have hm2:=m.2;have hasl:=OC hgf n.1
        conv=>whnf
        repeat' first
         | (refine Rq.mk kW ?_;conv=>whnf)
         | (refine Br.split (fun h=>?_) (fun h=>?_)<;>(try simp only[bz] at h)<;>first|(exfalso;omega)|(conv=>whnf))
         | (refine pM (fun h=>?_) (fun h=>?_)<;>(try simp only[bz] at h)<;>first|(exfalso;omega)|(conv=>whnf))
         | (refine az.mk _ (bO aa) ?_;conv=>whnf)
         | (refine bR (yH (n:=n.1) (by first|rfl|rw[zba]) (by rw[hAl];omega)) ?_;conv=>whnf)
         | (refine xt (X:=(ei (fP (dQ (bM c.b.l[q].ins.l of[q] g) x.1.1 n.1) n.1 (decide (cS g.ins.l[n.1])) (aH c.b.l[q].ins.l[k]) (aH g.ins.l[n.1])) n.1 ((aY g n.1).take m.1))) (n:=_) (u:=(ei (fP (dQ (bM c.b.l[q].ins.l of[q] g) x.1.1 n.1) n.1 (decide (cS g.ins.l[n.1])) (aH c.b.l[q].ins.l[k]) (aH g.ins.l[n.1])) n.1 ((aY g n.1).take m.1)).1.getD n.1 cb) (hAe aa).1 (by rw[hAl];exact(hAe aa).2) aa (by rw[hAl,zba,hwL];rfl) ((hAok.get _).kd hN) ((hAok.get _).kd hN) rfl rfl ?_)
        iterate 3
         . have hlt : m.1 < (aY g n.1).length := aa
           (refine⟨⟨m.1+1,hlt⟩,(by(conv=>whnf);(repeat' first|exact True.intro|apply And.intro|rfl|(refine nF ?_;rw[vY hlt])|(refine oa ?_;(rw[vY hlt];first|exact(uM bD).symm|exact((uK bD).trans bD).symm))|exact nE|(refine cw ?_ ?_ ?_<;>(try dsimp only)<;>omega)|exact zbc (AV.int .i64) cV)),rfl,eY⟩)
        (refine⟨⟨n.1+1,hn⟩,(by(conv=>whnf);(repeat' first|exact True.intro|apply And.intro|rfl|(refine nF ?_;rw[qQ,dy,Ao aa])|(refine oa ?_;rw[qQ,dy,Ao aa])|exact nE|(refine cw ?_ ?_ ?_<;>(try dsimp only)<;>omega)|exact zbc (AV.int .i64) cV)),rfl,eY⟩)
   . have hnL : n.1 = g.ins.l.length := aa
     refine zg ?_
     repeat' ((refine zp ?_ ?_<;>first|exact⟨⟩|intro h)<;>refine zg ?_)
     have hR:ga (bM c.b.l[q].ins.l of[q] g) x.1.1=(dQ (bM c.b.l[q].ins.l of[q] g) x.1.1 n.1):=X3 (by rw[hsl];exact hnL)
     have hdec:jq M N (x.1.1,false) (ga (bM c.b.l[q].ins.l of[q] g) x.1.1):=X4 hsk hpl hok (by rw[hlen,hsl])
     refine⟨⟨ga (bM c.b.l[q].ins.l of[q] g) x.1.1,j+1,by rw[T7,hj],fun h=>X6 hdec h⟩,(by(conv=>whnf);(repeat' first|exact True.intro|apply And.intro|rfl|(refine nF ?_;exact zbc Prod.fst hR.symm)|(refine oa ?_;exact zbc Prod.snd hR.symm)|exact nE|(refine cw ?_ ?_ ?_<;>(try dsimp only)<;>omega)|exact zbc (AV.int .i64) cV)),rfl,?_⟩
     have hmu:=X5 hdec;show xL M N (ga (bM c.b.l[q].ins.l of[q] g) x.1.1)<xL M N x.1;unfold xL;rw[if_pos (show x.1.2=true by assumption)]
     exact hmu
 generalize hy:snap _ _ _=rr
 obtain rfl:=hy.symm.trans (Zb (X:=x.1.1) (by rw[hlen,zba,hwL];rfl) rfl)
 exact⟨g,x.1.1,rfl,hg,⟨⟨j,hj⟩,hfin bD⟩⟩
end Go.Ago
