/-
  Part A39: lemmas, each with its own conditions.
-/
import Derived.Test.YthaolifcglpkdaaGreatDoorA36
import Derived.Test.YthaolifcglpkdaaGreatDoorA38
set_option maxRecDepth 100000
set_option maxHeartbeats 0
set_option linter.all false
namespace Go.Ago
open Go.Proofs List Nat Tryz
attribute [local irreducible] bN bM aZ bK b_ wr bp bL comp DC DP DW DV
attribute [local irreducible] fC ee fJ jX dO fV iX bQ bT aX aH
attribute [local irreducible] dJ ct aL cH dP dI ec dX cB dM dR bV bn bB eA eL
abbrev C3:List AV:=[.cK [],.bool true,.ah]
abbrev Da:List AV:=[.fO,.bool false,.ah]
def f_ (L n:Nat):List (List AV):=replicate n C3++replicate (L - n) Da
theorem Nq {n L k:Nat}:an.lt n (.arr 3 (f_ L k)):=by
 show(List.all _ _)=true;unfold f_;rw[all_append,all_replicate,all_replicate];simp[AV.l1,AV.la,AV.l0]
theorem zaz {ρ:Nat->Nat}{L m:Nat}(h:m=L):an.arr 3 (replicate m Da)=an.cp ρ (.arr 3 (f_ L 0)):=by
 subst h;simp only[an.cp,f_,replicate_zero,nil_append,Nat.sub_zero,map_replicate];rfl
theorem zaw {L n:Nat}(h:n<L):(f_ L n)[0+((n:Int)).toNat]? = some Da:=by
 unfold f_;rw[Nat.zero_add,Int.toNat_natCast,getElem?_append_right ag,getElem?_replicate,if_pos ez]
theorem zav {L n:Nat}(h:n<L):(f_ L n).set (0+((n:Int)).toNat) C3=f_ L (n+1):=by
 unfold f_;rw[Nat.zero_add,Int.toNat_natCast,set_append_right _ _ ag,length_replicate,Nat.sub_self,show L - n=(L - (n+1))+1 by omega,replicate_succ,set_cons_zero,replicate_succ',append_assoc]
 rfl
theorem zay {nm:Nat}:snap (.put nm (some (.mp [])) .nil) 20 (.cY nm)=some (.cK []):=yR (n:=17) (by rw[Tr.get,beq_refl];rfl) gw
theorem zau {nm L n:Nat}(h:n<L):j3 nm (.mp []) (.arr 3 ((f_ L n).set (0+((n:Int)).toNat) [.cY nm,.bool true,.ah])) (.arr 3 (f_ L (n+1))):=by
 rw[<-zav h];refine .inr ⟨3,_,_,rfl,rfl,ag,fun i f hf=>?_⟩
 rw[Nat.zero_add,Int.toNat_natCast] at hf ⊢;have hL:(f_ L n).length=L:=by simp[f_];omega
 by_cases hi:i=n
 . subst hi
   rw[getElem?_set_self aa] at hf ⊢;cases hf;refine⟨_,rfl,rfl,fun j y hj=>?_⟩
   match j,hj with
   | 0,hj=>cases hj;exact⟨_,rfl,.inr zay⟩
   | 1,hj=>cases hj;exact⟨_,rfl,.inl rfl⟩
   | 2,hj=>cases hj;exact⟨_,rfl,.inl rfl⟩
   | j+3,hj=>simp at hj
 . rw [getElem?_set_ne (fun e => hi e.symm)] at hf ⊢
   exact⟨f,hf,rfl,fun j y hj=>⟨y,hj,.inl rfl⟩⟩
theorem zax {ρ:Nat->Nat}{L n:Nat}:an.arr 3 (f_ L n)=an.cp ρ (.arr 3 (f_ L n)):=by
 simp only[an.cp,f_,map_append,map_replicate];rfl
theorem zaA {L n:Nat}(h:n=L):pH (.arr 3 (f_ L n)) (iH (replicate L cN)):=by
 subst h;have e1:f_ n n=replicate n C3:=by simp[f_]
 have e2:(replicate n cN).map Hd.row=replicate n cN.row:=ag;refine .inr ⟨3,_,_,rfl,rfl,by simp[f_],fun i e e' he he'=>?_⟩
 rw[e1,getElem?_replicate] at he;rw[e2,getElem?_replicate] at he';split at he
 . rename_i hi
   rw[if_pos hi] at he';cases he;cases he';refine⟨rfl,fun j x y hx hy=>?_⟩
   match j,hx,hy with
   | 0,hx,hy=>cases hx;cases hy;exact Told.r
   | 1,hx,hy=>cases hx;cases hy;exact Told.r
   | 2,hx,hy=>cases hx;cases hy;exact Told.nil
   | j+3,hx,hy=>simp at hx
 . cases he
theorem Hb {d:Cd}{p:Int}{g:Gr}(hg:dQ d p g):g.ins.l.length≤bV d.b.l:=by
 obtain⟨g1,g2,_⟩:=hg;rw[g2];exact mf (getElem_mem g1)
theorem Iz {n b s:Nat}(h:n≤10000)(hb:b≤1000)(hs:blt 0 s=true):(decide (0≤wr .i64 ((n:Int)+1)) && decide (wr .i64 ((n:Int)+1)≤wr .i64 ((n:Int)+1)) && decide (wr .i64 ((n:Int)+1)≤9223372036854775807) && decide ((b:Int) * wr .i64 ((n:Int)+1)≤140737488355328) && blt 0 s)=true:=by
 have e:wr .i64 ((n:Int)+1)=((n+1:Nat):Int):=by rw[aF aa aa];omega
 have h3:b * (n+1)≤1000 * 10001:=Nat.mul_le_mul hb aa;have h4:(b:Int) * ((n+1:Nat):Int)≤140737488355328:=by rw[<-Int.natCast_mul];omega
 rw[e,hs,decide_eq_true (p:=(0:Int)≤((n+1:Nat):Int)) aa,decide_eq_true (p:=((n+1:Nat):Int)≤((n+1:Nat):Int)) (Int.le_refl _),decide_eq_true (p:=((n+1:Nat):Int)≤9223372036854775807) aa,decide_eq_true h4];rfl
abbrev NA (sk:Sk):Type:={x:List Hd×Bool // ∃j,x.1=iX sk j∧(x.2=false->fV sk x.1=(x.1,false))}
def xA (M N:Nat)(x:List Hd×Bool):Nat:=if x.2=true then sM M N x.1+1 else 0
theorem nF {n:Nat}{X:List Hd}:an.lt n (iH X):=u7
theorem nG {ρ:Nat->Nat}{X Y:List Hd}(h:X=Y):iH X=an.cp ρ (iH Y):=by
 subst h;simp only[an.cp,map_map]
 congr 1
theorem od {ρ:Nat->Nat}{a b:Bool}(h:a=b):AV.bool a=AV.r2 ρ (.bool b):=by rw[h];rfl
theorem Tw {C:List Ins}{o:List Int}{g:Gr}:replicate (g.ins.l.length+1) cN=iX (bQ C o g) 0:=by
 unfold iX uC;rw[iL]
structure tI (g:Gr):Prop where
 eU:g.ins.l.length≤2000∧g.entries.l.length≤2000
 hJ:∀k,k≤g.ins.l.length->∀t∈aX g k,0≤t∧t≤(g.ins.l.length:Int)
theorem N9 (g:Gr)(h:tI g):af 84 [g.av,i64 ((g.ins.l.map Ins.cells).length:Nat)] (fun ae=>ae = .ret (aU g.entries.l)):=by
 have h1:=h.eU;have:=Ac g ⟨aa,aa⟩ g.ins.l.length (Nat.le_refl _);rw[z_ rfl] at this;rw[length_map];exact this
theorem N_ {g:Gr}(h:tI g)(k:Nat):(aX g k).length≤2001:=by
 have h1:=h.eU.2;unfold aX;split
 . rename_i hk
   have:=@yX g.ins.l[k];split
   . omega
   . rw[length_append];omega
 . omega
theorem YH {H:ai}{n:Nat}{X:List Hd}:aM (aM (snap H (n+1))) (X.map Hd.row)=some (X.map Hd.row):=by
 induction X with
 | nil=>rfl
 | cons x X ih =>
   have h1:aM (snap H (n+1)) x.row=some x.row:=rfl;exact jQ h1 ih
theorem YF {H:ai}{X:List Hd}{L:Nat}(hL:L=X.length)(hH:H.get 12=some (iH X)):snap H 20 (.az 12 0 L 3)=some (.ak 3 (X.map Hd.row)):=by
 subst hL;refine qS (n:=19) hH ag ?_;rw[drop_zero,take_of_length_le ag];exact YH
theorem yv {X:List Hd}{a:Int}{n:Nat}(ha:a=(n:Int))(h:n<X.length):(X.map Hd.row)[0+a.toNat]? = some (X.getD n cN).row:=by
 subst ha;rw[J5 h,dL h]
theorem lI {α:Type}{f:α->List AV}{l:List α}{z:Int}{k:Nat}(hk:k<l.length)(h:z=(k:Int)):(l.map f)[z.toNat]? = some (f l[k]):=by subst h;exact bI hk
theorem D8 {n:Nat}(h:n≤1000000):wr .i64 ((n:Int)+1)=((n+1:Nat):Int):=by rw[aF aa aa];omega
theorem uF {X:List (List AV)}{L:Nat}{j:Nat}{o:an}(e:(Tr.put 12 (some (.arr 3 X)) (.put 13 (some (.arr 1 [[.az 12 0 L 3]])) .nil):ai).get j=some o):(j=12∧o = .arr 3 X)∨(j=13∧o = .arr 1 [[.az 12 0 L 3]]):=by
 rw[Tr.get] at e;cases b:beq j 12 with
 | true=>rw[b] at e;exact .inl ⟨eq_of_beq_eq_true b,by cases e;rfl⟩
 | false =>
   rw[b] at e;simp only[cond_false] at e;rw[Tr.get] at e;cases b:beq j 13 with
   | true=>rw[b] at e;exact .inr ⟨eq_of_beq_eq_true b,by cases e;rfl⟩
   | false=>rw[b] at e;cases e
theorem xi {X:List Hd×Bool}{a:Int}{n:Nat}{u:Hd}{H:ai}{nx L:Nat}{R:AE->ai->Nat->Prop}(ha:a=(n:Int))(hn:n<X.1.length)(hl:X.1.length≤100000)(hL:L=X.1.length)(hX:(X.1.getD n cN).kz)(hf:u.kz)(h12:H.get 12=some (iH X.1))(h13:H.get 13=some (.arr 1 [[.az 12 0 L 3]]))
 (hR:R (.ret (.bool ((X.1.getD n cN).dy u))) (bk.dH H [(12,some (iH (fC X n u).1))]) nx):c9 113 [i64 a,u.av,.ptr 13 0 0] H nx R:=by
 subst ha hL;rw[dL hn] at hX hR;have hi:(fC X n u).1=if X.1[n].dy u=true then X.1.set n (X.1[n].mt u) else X.1:=by
  obtain⟨Y,b⟩:=X;rw[HJ hn]
 rw[hi] at hR;refine DC.qZ (k:=12) (HI X.1 hl n hn u hX hf) rfl (fun j o e=>?_) ab fun ae H' nx' hh=>?_
 . rcases uF e with ⟨rfl, rfl⟩ | ⟨rfl, rfl⟩
   . exact⟨ab,h12,u7⟩
   . exact⟨ab,h13,rfl⟩
 . obtain ⟨rfl, h2, h3⟩ := hh
   refine⟨_,_,rfl,rfl,⟨_,rfl⟩,h2,u7,fun j o hj e=>?_,hR⟩
   rcases uF e with⟨rfl,rfl⟩|⟨rfl,rfl⟩
   . exact absurd rfl hj
   . exact h3
theorem Tp {X:List Hd×Bool}{a:Int}{n nm:Nat}{u:Hd}{H:ai}{L:Nat}{R:AV->List (Nat×Option an)->List Nat->Prop}(ha:a=(n:Int))(hn:n<X.1.length)(hl:X.1.length≤100000)(hL:L=X.1.length)(hX:(X.1.getD n cN).kz)(hf:u.kz)(h12:H.get 12=some (iH X.1))(h13:H.get 13=some (.arr 1 [[.az 12 0 L 3]]))
 (hR:R (.bool ((X.1.getD n cN).dy u)) [(12,some (iH (fC X n u).1))] [12,13]):DV prog fx nm (.fn (.func 113) [] [.ptr 13 0 0]) [i64 a,u.av] H R:=by
 subst ha hL;rw[dL hn] at hX hR;have hi:(fC X n u).1=if X.1[n].dy u=true then X.1.set n (X.1[n].mt u) else X.1:=by
  obtain⟨Y,b⟩:=X;rw[HJ hn]
 rw[hi] at hR;refine DV.qZ (k:=12) [12,13] (HI X.1 hl n hn u hX hf) rfl (fun j o e=>?_) (fun j o e=>?_) ab fun ae H' nx' hh=>?_
 . rcases uF e with ⟨rfl, rfl⟩ | ⟨rfl, rfl⟩
   . exact⟨ab,h12,u7⟩
   . exact⟨ab,h13,rfl⟩
 . rcases uF e with ⟨rfl, rfl⟩ | ⟨rfl, rfl⟩
   . exact mem_cons_self
   . exact mem_cons_of_mem _ mem_cons_self
 . obtain ⟨rfl, h2, h3⟩ := hh
   refine⟨_,_,rfl,rfl,⟨_,rfl⟩,h2,u7,fun j o hj e=>?_,hR⟩
   rcases uF e with⟨rfl,rfl⟩|⟨rfl,rfl⟩
   . exact absurd rfl hj
   . exact h3
set_option maxHeartbeats 40000000 in
theorem SK (c d:Cd)(of:List (List Int))(q:Nat)(hs:bV d.b.l≤2000)(hq:q<d.b.l.length)(hqc:q<c.b.l.length)(hqo:q<of.length)(M N:Nat)(hN:N≤1001)(hfit:∀g,dQ d q g->(bQ c.b.l[q].ins.l of[q] g).Ok M N∧(bQ c.b.l[q].ins.l of[q] g).Pl∧tI g)(hol:of[q].length=d.b.l[q].ins.l.length)(hrow:∀p (hp:p<of[q].length),of[q][p] = -1∨∃n:Nat,n<c.b.l[q].ins.l.length∧of[q][p]=(n:Int)):af 62 [.agg (c.cells++d.cells++[.ak 1 (of.map fun l=>[aU l])]),i64 q] (fun ae=>∃g X,ae = .ret (.ak 3 (X.map Hd.row))∧dQ d q g∧j1 (bQ c.b.l[q].ins.l of[q] g) X):=by
 refine zw func62 ?_;refine zg ?_
 repeat' ((first|(refine Rq.mk (Iz (by rw[length_map];exact Nat.le_trans (Hb hg) aa) ab ab) ?_)|(refine DC.pure rfl (He d q aa ⟨aa,aa⟩) ?_;rintro _ ⟨g,rfl,hg⟩))<;>refine zg ?_)
 have hgl:=Nat.le_trans (Hb hg) hs;have hwL:wr .i64 ((g.ins.l.length:Int)+1)=((g.ins.l.length+1:Nat):Int):=by rw[aF aa aa];omega
 refine DW.Ce aC aD [1,2,4,5,6,29] [12] 0 (fun x:{n:Nat // n≤g.ins.l.length+1}=>[(30,i64 x.1)]) (fun x=>[(12,.arr 3 (f_ (g.ins.l.length+1) x.1))]) [] (fun x=>g.ins.l.length+2 - x.1) (⟨0,zero_le _⟩) ?_
 conv=>whnf
 refine⟨?_,fun x=>?_⟩
 . conv => whnf
   (repeat' first|exact True.intro|apply And.intro|rfl|exact Nq|(refine cw ?_ ?_ ?_<;>(try dsimp only)<;>omega)|exact congrArg (AV.int .i64) cS)
   exact zaz (by rw[length_map,hwL];rfl)
 have hx:=x.2;refine zk ?_
 repeat' ((first|(refine zp ?_ ?_<;>first|exact⟨⟩|intro h)|(refine cb (zaw (n:=x.1) (by first|omega|(have h9:=hwL;simp only[length_map] at *;omega))) ?_))<;>refine zk ?_)
 . have hlt : x.1 < g.ins.l.length + 1 := aa
   refine⟨⟨x.1+1,hlt⟩,_,iR.z 23 (.mp []) [(1,_),(2,_),(4,_),(5,_),(6,_),(29,_),(30,_)] [(0,_),(6,_),(12,.arr 3 (f_ (g.ins.l.length+1) (x.1+1))),(13,_)] rfl ⟨⟨_,rfl,.inl rfl⟩,⟨_,rfl,.inl rfl⟩,⟨_,rfl,.inl rfl⟩,⟨_,rfl,.inl rfl⟩,⟨_,rfl,.inl rfl⟩,⟨_,rfl,.inl rfl⟩,⟨_,rfl,.inl rfl⟩,trivial⟩ ⟨⟨ab,_,rfl,.inl rfl⟩,⟨ab,_,rfl,.inl rfl⟩,⟨ab,_,rfl,zau hlt⟩,⟨ab,_,rfl,.inl rfl⟩,trivial⟩,?_,rfl,bG⟩
   conv=>whnf
   (repeat' first|exact True.intro|apply And.intro|rfl|exact Nq|exact zax|(refine cw ?_ ?_ ?_<;>(try dsimp only)<;>omega)|exact congrArg (AV.int .i64) cS)
 have hxe:x.1=g.ins.l.length+1:=aa;refine DW.told [(1,_),(2,_),(4,_),(5,_),(6,_),(8,_),(9,_)] [(0,_),(6,_),(12,iH (replicate (g.ins.l.length+1) cN)),(13,_)] ⟨⟨_,rfl,Told.r⟩,⟨_,rfl,Told.r⟩,⟨_,rfl,Told.r⟩,⟨_,rfl,Told.r⟩,⟨_,rfl,Told.r⟩,⟨_,rfl,Told.r⟩,⟨_,rfl,Told.r⟩,trivial⟩ ⟨⟨_,rfl,.inl rfl⟩,⟨_,rfl,.inl rfl⟩,⟨_,rfl,zaA hxe⟩,⟨_,rfl,.inl rfl⟩,trivial⟩ ?_
 conv=>whnf
 obtain⟨hsk,hpl,hgf⟩:=hfit g hg;have hfew:=hgf.eU;refine DW.aO aC aD [1,2,4,5,6,8] [12] 0 (fun x:NA (bQ c.b.l[q].ins.l of[q] g)=>[(9,.bool x.1.2)]) (fun x=>[(12,iH x.1.1)]) [] (fun x=>xA M N x.1) (⟨(iX (bQ c.b.l[q].ins.l of[q] g) 0,true),0,rfl,fun h=>by cases h⟩) ?_
 conv=>whnf
 refine⟨?_,fun x=>?_⟩
 . conv => whnf
   (repeat' first|exact True.intro|apply And.intro|rfl|exact nG Tw|exact nF|(refine cw ?_ ?_ ?_<;>(try dsimp only)<;>omega)|exact congrArg (AV.int .i64) cS)
 obtain⟨j,hj,hfin⟩:=x.2;have hlen:x.1.1.length=g.ins.l.length+1:=by rw[hj,xl,iL]
 have hok:gY M N x.1.1:=by rw[hj];exact B4 hsk hpl
 have hsl:(bQ c.b.l[q].ins.l of[q] g).st.length=g.ins.l.length:=iL;have hse:(bQ c.b.l[q].ins.l of[q] g).fe=g.entries.l:=by unfold bQ;rfl
 have hgi:g.ins.l.length=d.b.l[q].ins.l.length:=by obtain⟨_,g2,_⟩:=hg;simp only[g2,Int.toNat_natCast]
 have hase:aX g g.ins.l.length=g.entries.l:=z_ rfl;refine zg ?_
 repeat' ((first|(refine zp ?_ ?_<;>first|exact⟨⟩|intro h)|(refine DC.pure rfl (N9 g hgf) ?_;rintro _ rfl))<;>refine zg ?_)
 . have hA:∀m,m≤g.entries.l.length->gY M N (ee (x.1.1,false) g.ins.l.length (g.entries.l.take m)).1∧(ee (x.1.1,false) g.ins.l.length (g.entries.l.take m)).1.length=g.ins.l.length+1:=fun m hm=>by
    rw[tX];refine⟨(tW (X:=(x.1.1,false)) hok fun t ht=>?_).2,hlen⟩
    have:t.toNat≤(bQ c.b.l[q].ins.l of[q] g).st.length:=hpl.fe t (show t∈(bQ c.b.l[q].ins.l of[q] g).fe by unfold bQ;exact mem_of_mem_take ht)
    dsimp only;omega
   refine DW.aO aC aD [1,2,4,5,6,8,41,42,43,44,45,46,47] [12] 0 (fun m:{m:Nat // m≤g.entries.l.length}=>[(48,i64 m.1),(9,.bool (ee (x.1.1,false) g.ins.l.length (g.entries.l.take m.1)).2)]) (fun m=>[(12,iH (ee (x.1.1,false) g.ins.l.length (g.entries.l.take m.1)).1)]) [] (fun m=>g.entries.l.length - m.1) (⟨0,zero_le _⟩) ?_
   conv=>whnf
   refine⟨?_,fun m=>?_⟩
   . conv => whnf
     (repeat' first|exact True.intro|apply And.intro|rfl|(refine nG ?_;exact N7.symm)|(refine od ?_;exact N8.symm)|exact nF|(refine cw ?_ ?_ ?_<;>(try dsimp only)<;>omega)|exact congrArg (AV.int .i64) cS)
   obtain⟨hAok,hAl⟩:=hA m.1 m.2;have hent:∀(h:m.1<g.entries.l.length),g.entries.l[m.1]=((g.entries.l[m.1].toNat:Nat):Int)∧g.entries.l[m.1].toNat<g.ins.l.length+1:=fun h=>by
    have:=hgf.hJ g.ins.l.length (Nat.le_refl _) g.entries.l[m.1] (by rw[hase];exact getElem_mem h)
    omega
   conv=>whnf
   repeat' first
    | (refine Rq.mk kU ?_;conv=>whnf)
    | (refine Br.split (fun h=>?_) (fun h=>?_)<;>(try simp only[bz] at h)<;>first|(exfalso;omega)|(conv=>whnf))
    | (refine pQ (fun h=>?_) (fun h=>?_)<;>(try simp only[bz] at h)<;>first|(exfalso;omega)|(conv=>whnf))
    | (refine ay.mk _ (bI aa) ?_;conv=>whnf)
    | (refine cb (yv (n:=g.ins.l.length) (by first|rfl|rw[length_map]) (by rw[hAl];omega)) ?_;conv=>whnf)
    | (refine xi (X:=(ee (x.1.1,false) g.ins.l.length (g.entries.l.take m.1))) (n:=_) (u:=(ee (x.1.1,false) g.ins.l.length (g.entries.l.take m.1)).1.getD g.ins.l.length cN) (hent aa).1 (by rw[hAl];exact(hent aa).2) aa (by rw[hAl,length_map,hwL];rfl) ((hAok.get _).kH hN) ((hAok.get _).kH hN) rfl rfl ?_)
   iterate 3
    . have hlt : m.1 < g.entries.l.length := aa
      (refine⟨⟨m.1+1,hlt⟩,(by(conv=>whnf);(repeat' first|exact True.intro|apply And.intro|rfl|(refine nG ?_;rw[vQ hlt])|(refine od ?_;(rw[vQ hlt];first|exact(uG bA).symm|exact((uE bA).trans bA).symm))|exact nF|(refine cw ?_ ?_ ?_<;>(try dsimp only)<;>omega)|exact congrArg (AV.int .i64) cS)),rfl,dC⟩)
   have hst0:(dO (bQ c.b.l[q].ins.l of[q] g) x.1.1 0)=(ee (x.1.1,false) g.ins.l.length (g.entries.l.take m.1)):=by
    rw[Y_,hsl,hse,Aa aa]
   have hB:∀n,n≤g.ins.l.length->gY M N (dO (bQ c.b.l[q].ins.l of[q] g) x.1.1 n).1∧(dO (bQ c.b.l[q].ins.l of[q] g) x.1.1 n).1.length=g.ins.l.length+1:=fun n hn=>by
    rw[yU];exact⟨(yT hsk hpl hok (by rw[hlen,hsl]) (by rw[hsl];exact hn)).2,hlen⟩
   refine DW.aO aC aD [1,2,4,5,6,8,11,41,42,43,44,45,46,47,48,49,50,51,52,53,54,55,56,57,58,59,60,61,62,63,64,65,66,67] [12] 0 (fun n:{n:Nat // n≤g.ins.l.length}=>[(68,i64 n.1),(9,.bool (dO (bQ c.b.l[q].ins.l of[q] g) x.1.1 n.1).2)]) (fun n=>[(12,iH (dO (bQ c.b.l[q].ins.l of[q] g) x.1.1 n.1).1)]) [] (fun n=>g.ins.l.length - n.1) (⟨0,zero_le _⟩) ?_
   conv=>whnf
   refine⟨?_,fun n=>?_⟩
   . conv => whnf
     (repeat' first|exact True.intro|apply And.intro|rfl|(refine nG ?_;exact congrArg Prod.fst hst0.symm)|(refine od ?_;exact congrArg Prod.snd hst0.symm)|exact nF|(refine cw ?_ ?_ ?_<;>(try dsimp only)<;>omega)|exact congrArg (AV.int .i64) cS)
   obtain⟨hBok,hBl⟩:=hB n.1 n.2;rcases Nat.lt_or_ge n.1 g.ins.l.length with hn|hn
   . have hno : n.1 < of[q].length := by rw [hol, <-hgi]; exact hn
     rcases hrow n.1 hno with h0|⟨k,hk,h0⟩
     . have hmv := hsk _ (mem_of_getElem? (lM (C := c.b.l[q].ins.l) hn (by rw [dL hno]; exact h0)))
       have dw:=Y8 (X:=(dO (bQ c.b.l[q].ins.l of[q] g) x.1.1 n.1)) (lM (C:=c.b.l[q].ins.l) hn (by rw[dL hno];exact h0))
       refine zk ?_
       repeat' ((first|(refine zp ?_ ?_<;>first|exact⟨⟩|intro h)|refine ay.mk _ (bI aa) ?_|(refine zh rfl (Vv ((dO (bQ c.b.l[q].ins.l of[q] g) x.1.1 n.1).1.getD n.1 cN) ((hBok.get _).kH hN) _ _) ?_;rintro _ rfl)|(refine cb (yv (n:=n.1) (by first|rfl|rw[length_map]) (by rw[hBl];omega)) ?_)|(refine Tp (X:=(dO (bQ c.b.l[q].ins.l of[q] g) x.1.1 n.1)) (n:=n.1+1) (u:=((dO (bQ c.b.l[q].ins.l of[q] g) x.1.1 n.1).1.getD n.1 cN).move g.ins.l[n.1].d g.ins.l[n.1].a) (D8 aa) (by rw[hBl];omega) aa (by rw[hBl,length_map,hwL];rfl) ((hBok.get _).kH hN) (((hBok.get _).move hmv).kH hN) rfl rfl ?_))<;>refine zk ?_)
       all_goals (refine⟨⟨n.1+1,hn⟩,(by(conv=>whnf);(repeat' first|exact True.intro|apply And.intro|rfl|(refine nG ?_;rw[qV,dw])|(refine od ?_;(rw[qV,dw];first|exact(uG bA).symm|exact((uE bA).trans bA).symm))|exact nF|(refine cw ?_ ?_ ?_<;>(try dsimp only)<;>omega)|exact congrArg (AV.int .i64) cS)),rfl,dC⟩)
     . have hso := hsk _ (mem_of_getElem? (mA (C := c.b.l[q].ins.l) hn hk (by rw [dL hno]; exact h0)))
       have dw:=Y9 (X:=(dO (bQ c.b.l[q].ins.l of[q] g) x.1.1 n.1)) (mA (C:=c.b.l[q].ins.l) hn hk (by rw[dL hno];exact h0))
       rw[sS hn] at dw;have hFok:=(Gx (p:=n.1) hBok hso (by rw[hBl];omega)).2
       have hFl:(fJ (dO (bQ c.b.l[q].ins.l of[q] g) x.1.1 n.1) n.1 (decide (cQ g.ins.l[n.1])) (aH c.b.l[q].ins.l[k]) (aH g.ins.l[n.1])).1.length=g.ins.l.length+1:=by rw[Be,hBl]
       have hXf:=(hBok.get n.1).kH hN;have hC:∀m,gY M N (ee (fJ (dO (bQ c.b.l[q].ins.l of[q] g) x.1.1 n.1) n.1 (decide (cQ g.ins.l[n.1])) (aH c.b.l[q].ins.l[k]) (aH g.ins.l[n.1])) n.1 ((aX g n.1).take m)).1∧(ee (fJ (dO (bQ c.b.l[q].ins.l of[q] g) x.1.1 n.1) n.1 (decide (cQ g.ins.l[n.1])) (aH c.b.l[q].ins.l[k]) (aH g.ins.l[n.1])) n.1 ((aX g n.1).take m)).1.length=g.ins.l.length+1:=fun m=>by
        rw[tX];refine⟨(tW hFok fun t ht=>?_).2,hFl⟩
        have:=hgf.hJ n.1 aa t (mem_of_mem_take ht);rw[hFl];omega
       have hCe:∀(m:Nat) (h:m<(aX g n.1).length),(aX g n.1)[m]=(((aX g n.1)[m].toNat:Nat):Int)∧(aX g n.1)[m].toNat<g.ins.l.length+1:=fun m h=>by
        have:=hgf.hJ n.1 aa (aX g n.1)[m] (getElem_mem h);omega
       conv=>whnf
       repeat' first
        | (refine ay.mk _ (lI hk h0) ?_;conv=>whnf)
        | (refine Rq.mk (b:=gK _ _ _ _ _ _) aG ?_;conv=>whnf)
        | (refine Rq.mk kU ?_;conv=>whnf)
        | (refine Br.split (fun h=>?_) (fun h=>?_)<;>(try simp only[bz] at h)<;>first|(exfalso;omega)|(conv=>whnf))
        | (refine pQ (fun h=>?_) (fun h=>?_)<;>(try simp only[bz] at h)<;>first|(exfalso;omega)|(conv=>whnf))
        | (refine ay.mk _ (bI aa) ?_;conv=>whnf)
        | (refine DC.pure rfl (wQ g.ins.l[n.1]) ?_;rintro _ (⟨rfl,hf⟩|⟨rfl,hf⟩)<;>conv=>whnf)
        | (refine DC.pure rfl (o0 g.ins.l[n.1]) ?_;rintro _ rfl<;>conv=>whnf)
        | (refine DV.pure rfl (o0 c.b.l[q].ins.l[k]) ?_;rintro _ rfl<;>refine⟨_,rfl,?_⟩<;>conv=>whnf)
        | (refine DV.pure rfl (X5 ((dO (bQ c.b.l[q].ins.l of[q] g) x.1.1 n.1).1.getD n.1 cN) hXf (aH c.b.l[q].ins.l[k]) (aH g.ins.l[n.1])) ?_;rintro _ rfl<;>refine⟨_,rfl,?_⟩<;>conv=>whnf)
        | (refine DC.pure rfl (Ac g ⟨aa,aa⟩ n.1 aa) ?_;rintro _ rfl<;>conv=>whnf)
        | (refine And.intro (a:=iV _=true) aG (kY.e ?_);conv=>whnf)
        | (refine cb (yv (n:=n.1) (by first|rfl|rw[length_map]) (by rw[hBl];omega)) ?_;conv=>whnf)
        | (refine xi (X:=(dO (bQ c.b.l[q].ins.l of[q] g) x.1.1 n.1)) (n:=n.1+1) (u:=((dO (bQ c.b.l[q].ins.l of[q] g) x.1.1 n.1).1.getD n.1 cN).set (aH c.b.l[q].ins.l[k]) (aH g.ins.l[n.1])) (D8 aa) (by rw[hBl];omega) aa (by rw[hBl,length_map,hwL];rfl) ((hBok.get _).kH hN) (((hBok.get _).set (hso aa).1 ⟨aa,(hso aa).2⟩).kH hN) rfl rfl ?_)
        | (refine xi (X:=(dO (bQ c.b.l[q].ins.l of[q] g) x.1.1 n.1)) (n:=n.1+1) (u:=(dO (bQ c.b.l[q].ins.l of[q] g) x.1.1 n.1).1.getD n.1 cN) (D8 aa) (by rw[hBl];omega) aa (by rw[hBl,length_map,hwL];rfl) ((hBok.get _).kH hN) hXf rfl rfl ?_)
       all_goals
        refine DW.aO aC aD [1,2,4,5,6,8,11,12,13,14,15,16,41,42,43,44,45,46,47,48,49,50,51,52,53,54,55,56,57,58,59,60,61,62,63,64,65,66,67,68,69,70,71,72,73,74,75,76,77,78,79,80,81,82,83,84,85,86,87,88,89,90,91,92,93,94,95,96,97,98,99,100,101,102,103,104,105,106,107,108,109,110,111,112,113,114,115,116,117,118,119,120,121,122,123,124,125,126,127,128,129,130,131,132,133,134] [12] 0 (fun m:{m:Nat // m≤(aX g n.1).length}=>[(135,i64 m.1),(9,.bool (ee (fJ (dO (bQ c.b.l[q].ins.l of[q] g) x.1.1 n.1) n.1 (decide (cQ g.ins.l[n.1])) (aH c.b.l[q].ins.l[k]) (aH g.ins.l[n.1])) n.1 ((aX g n.1).take m.1)).2)]) (fun m=>[(12,iH (ee (fJ (dO (bQ c.b.l[q].ins.l of[q] g) x.1.1 n.1) n.1 (decide (cQ g.ins.l[n.1])) (aH c.b.l[q].ins.l[k]) (aH g.ins.l[n.1])) n.1 ((aX g n.1).take m.1)).1)]) [] (fun m=>(aX g n.1).length - m.1) (⟨0,zero_le _⟩) ?_
        conv=>whnf
        refine⟨(by(conv=>whnf);(repeat' first|exact True.intro|apply And.intro|rfl|(refine nG ?_;(refine Eq.trans ?_ (congrArg Prod.fst (EN (X:=(fJ (dO (bQ c.b.l[q].ins.l of[q] g) x.1.1 n.1) n.1 (decide (cQ g.ins.l[n.1])) (aH c.b.l[q].ins.l[k]) (aH g.ins.l[n.1])))).symm);first|rw[decide_eq_true hf,GA (a:=aH g.ins.l[n.1]) aa]|rw[decide_eq_true hf,Gz (a:=aH g.ins.l[n.1]) aa]|rw[decide_eq_false hf,Gy]))|(refine od ?_;(refine Eq.trans ?_ (congrArg Prod.snd (EN (X:=(fJ (dO (bQ c.b.l[q].ins.l of[q] g) x.1.1 n.1) n.1 (decide (cQ g.ins.l[n.1])) (aH c.b.l[q].ins.l[k]) (aH g.ins.l[n.1])))).symm);first|(rw[decide_eq_true hf,GA (a:=aH g.ins.l[n.1]) aa];first|exact(uG bA).symm|exact((uE bA).trans bA).symm)|(rw[decide_eq_true hf,Gz (a:=aH g.ins.l[n.1]) aa];first|exact(uG bA).symm|exact((uE bA).trans bA).symm)|rw[decide_eq_false hf,Gy]))|exact nF|(refine cw ?_ ?_ ?_<;>(try dsimp only)<;>omega)|exact congrArg (AV.int .i64) cS)),fun m=>?_⟩
        have hAok:=(hC m.1).1;have hAl:=(hC m.1).2;have hAe:=hCe m.1;have hm2:=m.2;have hasl:=N_ hgf n.1
        conv=>whnf
        repeat' first
         | (refine Rq.mk kU ?_;conv=>whnf)
         | (refine Br.split (fun h=>?_) (fun h=>?_)<;>(try simp only[bz] at h)<;>first|(exfalso;omega)|(conv=>whnf))
         | (refine pQ (fun h=>?_) (fun h=>?_)<;>(try simp only[bz] at h)<;>first|(exfalso;omega)|(conv=>whnf))
         | (refine ay.mk _ (bI aa) ?_;conv=>whnf)
         | (refine cb (yv (n:=n.1) (by first|rfl|rw[length_map]) (by rw[hAl];omega)) ?_;conv=>whnf)
         | (refine xi (X:=(ee (fJ (dO (bQ c.b.l[q].ins.l of[q] g) x.1.1 n.1) n.1 (decide (cQ g.ins.l[n.1])) (aH c.b.l[q].ins.l[k]) (aH g.ins.l[n.1])) n.1 ((aX g n.1).take m.1))) (n:=_) (u:=(ee (fJ (dO (bQ c.b.l[q].ins.l of[q] g) x.1.1 n.1) n.1 (decide (cQ g.ins.l[n.1])) (aH c.b.l[q].ins.l[k]) (aH g.ins.l[n.1])) n.1 ((aX g n.1).take m.1)).1.getD n.1 cN) (hAe aa).1 (by rw[hAl];exact(hAe aa).2) aa (by rw[hAl,length_map,hwL];rfl) ((hAok.get _).kH hN) ((hAok.get _).kH hN) rfl rfl ?_)
        iterate 3
         . have hlt : m.1 < (aX g n.1).length := aa
           (refine⟨⟨m.1+1,hlt⟩,(by(conv=>whnf);(repeat' first|exact True.intro|apply And.intro|rfl|(refine nG ?_;rw[vQ hlt])|(refine od ?_;(rw[vQ hlt];first|exact(uG bA).symm|exact((uE bA).trans bA).symm))|exact nF|(refine cw ?_ ?_ ?_<;>(try dsimp only)<;>omega)|exact congrArg (AV.int .i64) cS)),rfl,dC⟩)
        (refine⟨⟨n.1+1,hn⟩,(by(conv=>whnf);(repeat' first|exact True.intro|apply And.intro|rfl|(refine nG ?_;rw[qV,dw,Aa aa])|(refine od ?_;rw[qV,dw,Aa aa])|exact nF|(refine cw ?_ ?_ ?_<;>(try dsimp only)<;>omega)|exact congrArg (AV.int .i64) cS)),rfl,dC⟩)
   . have hnL : n.1 = g.ins.l.length := aa
     refine zg ?_
     repeat' ((refine zp ?_ ?_<;>first|exact⟨⟩|intro h)<;>refine zg ?_)
     have hR:fV (bQ c.b.l[q].ins.l of[q] g) x.1.1=(dO (bQ c.b.l[q].ins.l of[q] g) x.1.1 n.1):=Xz (by rw[hsl];exact hnL)
     have hdec:jm M N (x.1.1,false) (fV (bQ c.b.l[q].ins.l of[q] g) x.1.1):=XA hsk hpl hok (by rw[hlen,hsl])
     refine⟨⟨fV (bQ c.b.l[q].ins.l of[q] g) x.1.1,j+1,by rw[Tv,hj],fun h=>XC hdec h⟩,(by(conv=>whnf);(repeat' first|exact True.intro|apply And.intro|rfl|(refine nG ?_;exact congrArg Prod.fst hR.symm)|(refine od ?_;exact congrArg Prod.snd hR.symm)|exact nF|(refine cw ?_ ?_ ?_<;>(try dsimp only)<;>omega)|exact congrArg (AV.int .i64) cS)),rfl,?_⟩
     have hmu:=XB hdec;show xA M N (fV (bQ c.b.l[q].ins.l of[q] g) x.1.1)<xA M N x.1;unfold xA;rw[if_pos (show x.1.2=true by assumption)]
     exact hmu
 generalize hy:snap _ _ _=rr
 obtain rfl:=hy.symm.trans (YF (X:=x.1.1) (by rw[hlen,length_map,hwL];rfl) rfl)
 exact⟨g,x.1.1,rfl,hg,⟨⟨j,hj⟩,hfin bA⟩⟩
end Go.Ago
namespace Go.Ago
open Go.Proofs List Nat Tryz
attribute [local irreducible] bN bM aZ bK b_ wr bp bL comp DC DP DW DV
attribute [local irreducible] bQ bT aX aH aT aI.has Hd.of
attribute [local irreducible] dJ ct aL cH dP dI ec dX cB dM dR bV bn bB eA eL
def lQ (C I:List Ins)(o:List Int)(X:List Hd)(p:Nat):Prop:=∀(b:p<I.length) (n:Nat) (a:n<C.length),o.getD p 0=(n:Int)->∀(m:Nat) (l r:Int),(aT I[p])[m]? = some l->(aT C[n])[m]? = some r->((X.getD p cN).of l).has r=true
theorem XD {X:List Hd}{n:Nat}(h:n<X.length):(X.map Hd.row)[((n:Int)).toNat]? = some (X.getD n cN).row:=by simp_all
theorem Oe {C I:List Ins}{o:List Int}{X:List Hd}{p:Nat}(b:p<o.length)(h:o[p] = -1):lQ C I o X p:=fun _ n _ a=>by grind
abbrev zT (us ws:List Int)(h:Hd):Type:={m:Nat // m≤us.length∧∀(i:Nat) (l r:Int),i<m->us[i]? = some l->ws[i]? = some r->(h.of l).has r=true}
theorem Xh {us ws:List Int}{h:Hd}(m:zT us ws h)(d:m.1<us.length)(e:m.1<ws.length)(f:(h.of us[m.1]).has ws[m.1]=true):∀(i:Nat) (l r:Int),i<m.1+1->us[i]? = some l->ws[i]? = some r->(h.of l).has r=true:=fun i l r c a b=>by
 grind
theorem Od {C I:List Ins}{o:List Int}{X:List Hd}{p n:Nat}(f:p<I.length)(j:n<C.length)(d:p<o.length)(h:o[p]=(n:Int))(m:zT (aT I[p]) (aT C[n]) (X.getD p cN))(g:(aT I[p]).length≤m.1):lQ C I o X p:=fun _ c _ e i l r a b=>by
 rw[dL d] at *;obtain rfl:c=n:=aa
 grind
theorem Of {C I:List Ins}{o:List Int}{X:List Hd}{p n m:Nat}(f:p<I.length)(g:n<C.length)(d:p<o.length)(h:o[p]=(n:Int))(b:m<(aT I[p]).length)(a:m<(aT C[n]).length)(c:((X.getD p cN).of (aT I[p])[m]).has (aT C[n])[m]=false):(false=true↔∀p,lQ C I o X p):=
 ⟨fun e=>(by cases e),fun e=>by
  have:=e p _ n _ (by grind) m _ _ (getElem?_eq_getElem b) (getElem?_eq_getElem a)
  grind⟩
theorem Yk (c d:Cd)(a:List (List Int))(q:Nat)(R:q<d.b.l.length)(M:q<c.b.l.length)(P:q<a.length)(T:d.b.l[q].ins.l.length≤2000)
 (K:af 62 [.agg (c.cells++d.cells++[.ak 1 (a.map fun l=>[aU l])]),i64 q] (fun x=>∃g X,x = .ret (.ak 3 (X.map Hd.row))∧dQ d q g∧j1 (bQ c.b.l[q].ins.l a[q] g) X))
 (O:∀g X,dQ d q g->j1 (bQ c.b.l[q].ins.l a[q] g) X->X.length=d.b.l[q].ins.l.length+1∧∀p,(X.getD p cN).kz)(B:∀i∈d.b.l[q].ins.l,i.l.l.length≤40)(C:∀i∈c.b.l[q].ins.l,i.l.l.length≤40)
 (A:a[q].length=d.b.l[q].ins.l.length)(v:∀p (z:p<a[q].length),a[q][p] = -1∨∃n:Nat,∃o:n<c.b.l[q].ins.l.length,a[q][p]=(n:Int)∧(aT (d.b.l[q].ins.l[p]'aa)).length=(aT c.b.l[q].ins.l[n]).length) :
 af 60 [.agg (c.cells++d.cells++[.ak 1 (a.map fun l=>[aU l])]),i64 q] (fun x=>∃g X b,x = .ret (.bool b)∧dQ d q g∧j1 (bQ c.b.l[q].ins.l a[q] g) X∧(b=true↔∀p,lQ c.b.l[q].ins.l d.b.l[q].ins.l a[q] X p)):=by
 refine zw func60 ?_;refine zg ?_
 repeat' ((refine DC.pure rfl (K) ?_;rintro _ ⟨g,X,rfl,y,f⟩)<;>refine zg ?_)
 obtain⟨I,u⟩:=O g X y f;have L:=d.b.l[q].ins.h;refine DW.aO aC aD [1,2,4,5,21,22] [] 0 (fun n:{n:Nat // n≤d.b.l[q].ins.l.length∧∀p,p<n->lQ c.b.l[q].ins.l d.b.l[q].ins.l a[q] X p}=>[(23,i64 n.1)]) (fun _=>[]) [] (fun n=>d.b.l[q].ins.l.length - n.1) (⟨0,zero_le _,fun p h=>absurd h (not_lt_zero _)⟩) ?_
 refine zl fun n=>?_
 rcases Nat.lt_or_ge n.1 d.b.l[q].ins.l.length with o|o
 . have j : n.1 < a[q].length := by rw [A]; exact o
   have F:=B _ (getElem_mem o);have D:lQ c.b.l[q].ins.l d.b.l[q].ins.l a[q] X n.1->∀p,p<n.1+1->lQ c.b.l[q].ins.l d.b.l[q].ins.l a[q] X p:=fun h p z=>by
    by_cases e:p=n.1
    . rw[e];exact h
    . exact n.2.2 p aa
   rcases v n.1 j with t|⟨k,w,t,N⟩
   . have r := D (Oe j t)
     refine zg ?_
     repeat' ((refine zp ?_ ?_<;>first|exact⟨⟩|intro h)<;>refine zg ?_)
     exact zi ⟨n.1+1,o,r⟩
   . have J := C _ (getElem_mem w)
     refine zk ?_
     repeat' ((first|refine ay.mk _ (lI w t) ?_|(refine zp ?_ ?_<;>first|exact⟨⟩|intro h)|refine ay.mk _ (bI aa) ?_|(refine DC.pure rfl (y8 d.b.l[q].ins.l[n.1] F) ?_;rintro _ rfl)|(refine DC.pure rfl (y8 c.b.l[q].ins.l[k] J) ?_;rintro _ rfl))<;>refine zk ?_)
     refine DW.aO aC aD [1,2,4,5,6,7,8,9,21,22,23,24,25,26,27,28,29,30,31,32,33,34,35,36,37,38,39,40,41,42,43,44,45,46,47,48,49,50,51] [] 0 (fun m:zT (aT d.b.l[q].ins.l[n.1]) (aT c.b.l[q].ins.l[k]) (X.getD n.1 cN)=>[(52,i64 m.1)]) (fun _=>[]) [] (fun m=>(aT d.b.l[q].ins.l[n.1]).length - m.1) (⟨0,zero_le _,fun i _ _ h=>absurd h (not_lt_zero _)⟩) ?_
     refine zl fun m=>?_
     have S:=m.2.1;have E:(aT d.b.l[q].ins.l[n.1]).length≤1000:=Nat.le_trans (y9 F) aa;refine zk ?_
     repeat' ((first|refine ay.mk _ (XD (n:=n.1) aa) ?_|(refine zp ?_ ?_<;>intro h)|refine ay.mk _ (bI aa) ?_|(refine zh rfl (sx (X.getD n.1 cN) _) ?_;rintro _ rfl)|(refine zh rfl (rX _ ((u n.1).all _).1 (Nat.le_trans ((u n.1).all _).2 aa) _) ?_;rintro _ rfl))<;>refine zk ?_)
     . have H : m.1 < (aT d.b.l[q].ins.l[n.1]).length := aa
       have Q:=Xh m H aa bA;exact zi ⟨m.1+1,H,Q⟩
     . exact⟨g,X,false,rfl,y,f,Of (m:=m.1) o w j t aa aa bA⟩
     . have r := D (Od o w j t m aa)
       exact zi ⟨n.1+1,o,r⟩
 . have s:∀p,lQ c.b.l[q].ins.l d.b.l[q].ins.l a[q] X p:=fun p=>by
    rcases Nat.lt_or_ge p n.1 with h|h
    . exact n.2.2 p h
    . exact fun z=>absurd z aa
   refine zg ?_
   repeat' ((refine zp ?_ ?_<;>first|exact⟨⟩|intro h)<;>refine zg ?_)
   exact⟨g,X,true,rfl,y,f,⟨fun _=>s,fun _=>rfl⟩⟩
end Go.Ago
namespace Go.Ago
open Go.Proofs List Nat Tryz
theorem Zd {o:List Int}:cj o 0=0:=rfl
theorem yV {o:List Int}{p:Nat}(a:o.length≤p):cj o p=cj o o.length:=by unfold cj;grind
def ej (o:List Int)(L n:Nat):List Int:=(List.range (L+1)).map fun p=>if p<n then 0 else (cj o p:Int)
theorem qU {o:List Int}{L n:Nat}:(ej o L n).length=L+1:=by simp[ej]
theorem YZ {o:List Int}{L:Nat}:ej o L (L+1)=replicate (L+1) 0:=by
 refine ext_getElem (by simp[ej]) fun i b c=>?_
 have a:i<L+1:=by grind
 simp[ej,a]
theorem Lh {o:List Int}{L n i:Nat}(h:i<(ej o L n).length):(ej o L n)[i]=if i<n then 0 else (cj o i:Int):=by simp[ej]
theorem Y1 {o:List Int}{L n:Nat}(h:n≤L):(ej o L (n+1)).set n (cj o n:Int)=ej o L n:=by
 refine ext_getElem (by simp[ej]) fun i b a=>?_
 rw[getElem_set,Lh _,Lh]
 grind
theorem Y0 {o:List Int}{L p:Nat}(h:p≤L):(ej o L 0).getD p 0=(cj o p:Int):=by
 have a:p<(ej o L 0).length:=by rw[qU];omega
 rw[dL a];simp[ej]
end Go.Ago
namespace Go.Ago
open Go.Proofs List Nat Tryz
attribute [local irreducible] bN bM aZ bK b_ wr bp bL comp DC DP DW DV
attribute [local irreducible] cj ej
attribute [local irreducible] dJ ct aL cH dP dI ec dX cB dM dR bV bn bB eA eL
theorem yS {n:Nat}{l:List Int}:an.lt n (.arr 1 (l.map fun z=>[i64 z])):=by
 show(List.all _ _)=true;rw[all_map,all_eq_true];intro x _;rfl
theorem Lk {ρ:Nat->Nat}{l m:List Int}(h:l=m):an.arr 1 (l.map fun z=>[i64 z])=an.cp ρ (.arr 1 (m.map fun z=>[i64 z])):=by
 subst h;simp only[an.cp,map_map]
 congr 1
theorem Y3 {ρ:Nat->Nat}{m:Nat}{o:List Int}{L:Nat}(h:m=L+1):an.arr 1 (replicate m [i64 0])=an.cp ρ (.arr 1 ((ej o L (L+1)).map fun z=>[i64 z])):=by
 subst h;rw[YZ,<-Lk rfl,map_replicate]
theorem Dx {ρ:Nat->Nat}{o:List Int}{L p:Nat}{z v:Int}(b:p≤L)(c:z=(p:Int))(a:v=(cj o p:Int)):an.arr 1 (((ej o L (p+1)).map fun z=>[i64 z]).set (0+z.toNat) [i64 v])=an.cp ρ (.arr 1 ((ej o L p).map fun z=>[i64 z])):=by
 subst c a;rw[<-Lk rfl,<-Y1 b,Nat.zero_add,Int.toNat_natCast,map_set]
theorem oD {ρ:Nat->Nat}{a b:Int}(h:a=b):AV.int .i64 a=AV.r2 ρ (.int .i64 b):=by rw[h];rfl
theorem CG {α:Type}{f:α->List AV}{l:List α}{z:Int}{k:Nat}(a:k<l.length)(h:z=(k:Int)):(l.map f)[0+z.toNat]? = some (f l[k]):=by simp_all
theorem YD {H:ai}{k L:Nat}{l:List Int}(b:L=l.length)(a:H.get k=some (.arr 1 (l.map fun z=>[i64 z]))):snap H 20 (.az k 0 L 1)=some (aU l):=by
 subst b;refine qS a ag ?_;rw[take_of_length_le ag];exact Im
theorem Ll (c d:Cd)(a:List (List Int))(q:Nat)(hqc:q<c.b.l.length)(hqo:q<a.length)(hs:a[q].length≤2000)(hrow:∀p (f:p<a[q].length),a[q][p] = -1∨∃n:Nat,a[q][p]=(n:Int))(i:a[q].filter da=bC c.b.l[q].ins.l.length) :
 af 111 [.agg (c.cells++d.cells++[.ak 1 (a.map fun l=>[aU l])]),i64 q] (fun ae=>ae = .ret (aU (ej a[q] a[q].length 0))):=by
 refine zw func111 ?_;have m:wr .i64 ((a[q].length:Int)+1)=((a[q].length+1:Nat):Int):=by rw[aF aa aa];omega
 refine zg ?_
 repeat' ((refine Rq.mk (Iz (by rw[length_map];omega) ab ab) ?_)<;>refine zg ?_)
 refine DW.aO aC aD [4,5,6] [11] 0 (fun j:{j:Nat // j≤a[q].length+1}=>[(7,i64 (cj a[q] j.1)),(8,i64 ((j.1:Int) - 1))]) (fun j=>[(11,.arr 1 ((ej a[q] a[q].length j.1).map fun z=>[i64 z]))]) [] (fun j=>j.1) (⟨a[q].length+1,Nat.le_refl _⟩) ?_
 conv=>whnf
 refine⟨?_,fun x=>?_⟩
 . conv => whnf
   (repeat' first|exact True.intro|apply And.intro|rfl|exact yS|(refine Y3 ?_;rw[length_map,m];rfl)|(refine oD ?_;first|(rw[length_map,yV (le_succ _),Dy i];done)|(rw[length_map];dsimp only;omega)))
 obtain⟨j,hj⟩:=x;cases j with
 | zero =>
   dsimp only;refine zg ?_
   repeat' ((refine zp ?_ ?_<;>first|exact⟨⟩|intro h)<;>refine zg ?_)
   generalize hy:snap _ _ _=rr
   obtain rfl:=hy.symm.trans (YD (l:=ej a[q] a[q].length 0) (by rw[qU,length_map,m];rfl) rfl)
   rfl
 | succ p =>
   dsimp only;have e:((p+1:Nat):Int) - 1=(p:Int):=aa;rcases Nat.lt_or_ge p a[q].length with f|f
   . rcases hrow p f with o | ⟨k, o⟩
     . have g := Dz f (by rw [dL f]; exact o)
       refine zk ?_
       repeat' ((first|refine ay.mk _ (lI f e) ?_|(refine cb (CG (by rw[qU];omega) e) ?_)|(refine zp ?_ ?_<;>first|exact⟨⟩|intro h))<;>refine zk ?_)
       (refine⟨⟨p,aa⟩,(by(conv=>whnf);(repeat' first|exact True.intro|apply And.intro|rfl|exact yS|(refine Dx aa e ?_;exact congrArg Int.ofNat g)|(refine oD ?_;first|(exact congrArg Int.ofNat g;done)|(rw[aF aa aa];dsimp only;omega)))),rfl,dC⟩)
     . have g := (DA i f (by rw [dL f]; exact o)).1
       refine zk ?_
       repeat' ((first|refine ay.mk _ (lI f e) ?_|(refine cb (CG (by rw[qU];omega) e) ?_)|(refine zp ?_ ?_<;>first|exact⟨⟩|intro h))<;>refine zk ?_)
       (refine⟨⟨p,aa⟩,(by(conv=>whnf);(repeat' first|exact True.intro|apply And.intro|rfl|exact yS|(refine Dx aa e ?_;(rw[g];exact o))|(refine oD ?_;first|((rw[g];exact o);done)|(rw[aF aa aa];dsimp only;omega)))),rfl,dC⟩)
   . have g := (yV (le_succ_of_le f)).trans (yV f).symm
     refine zk ?_
     repeat' ((first|(refine cb (CG (by rw[qU];omega) e) ?_)|(refine zp ?_ ?_<;>first|exact⟨⟩|intro h))<;>refine zk ?_)
     (refine⟨⟨p,aa⟩,(by(conv=>whnf);(repeat' first|exact True.intro|apply And.intro|rfl|exact yS|(refine Dx aa e ?_;exact congrArg Int.ofNat g)|(refine oD ?_;first|(exact congrArg Int.ofNat g;done)|(rw[aF aa aa];dsimp only;omega)))),rfl,dC⟩)
theorem UN (c d:Cd)(a:List (List Int))(D:d.b.l.length=c.b.l.length)(J:a.length=c.b.l.length)(A:∀l∈a,l.length≤2000)
 (r:∀(q:Nat) (f:q<a.length) (t:q<d.b.l.length),a[q].length=d.b.l[q].ins.l.length)
 (m:∀(q:Nat) (f:q<a.length) (t:q<d.b.l.length) (u:q<c.b.l.length) (p:Nat) (e:p<a[q].length) (C:p<d.b.l[q].ins.l.length),(a[q][p] = -1∧d.b.l[q].ins.l[p].op=3)∨∃n:Nat,n<c.b.l[q].ins.l.length∧a[q][p]=(n:Int))
 (j:∀(q:Nat) (f:q<a.length) (u:q<c.b.l.length),a[q].filter da=bC c.b.l[q].ins.l.length) :
 af 110 [.agg (c.cells++d.cells++[.ak 1 (a.map fun l=>[aU l])])] (fun G=>G = .ret (.bool true)):=by
 refine zw func110 ?_;have I:=c.b.h;refine zg ?_
 repeat' ((refine zp ?_ ?_<;>first|exact⟨⟩|intro h)<;>refine zg ?_)
 refine DW.aO aC aD [1,2,28,29] [] 0 (fun q:{q:Nat // q≤a.length}=>[(30,i64 q.1)]) (fun _=>[]) [] (fun q=>a.length - q.1) (⟨0,zero_le _⟩) ?_
 refine zl fun x=>?_
 obtain⟨q,B⟩:=x;dsimp only;rcases Nat.lt_or_ge q a.length with f|f
 . have i : q < d.b.l.length := aa
   have o:q<c.b.l.length:=aa;have L:=r q f i;have F:=A _ (getElem_mem f);have z:=j q f o;have H:=c.b.l[q].ins.h;refine zg ?_
   repeat' ((refine zp ?_ ?_<;>first|exact⟨⟩|intro h)<;>refine zg ?_)
   refine DW.aO aC aD [1,2,3,4,28,29,30,31,32,33,34,35,36,37,38,39,40,41,42,43,44,45,46,47] [] 0 (fun p:{p:Nat // p≤a[q].length}=>[(48,i64 p.1),(5,i64 (cj a[q] p.1))]) (fun _=>[]) [] (fun p=>a[q].length - p.1) (⟨0,zero_le _⟩) ?_
   conv=>whnf
   refine⟨?_,fun y=>?_⟩
   . conv => whnf
     (repeat' first|exact True.intro|apply And.intro|rfl|(refine oD ?_;exact(congrArg Int.ofNat Zd).symm))
   obtain⟨p,E⟩:=y;dsimp only;rcases Nat.lt_or_ge p a[q].length with e|e
   . have s : p < d.b.l[q].ins.l.length := aa
     rcases m q f i o p e s with⟨v,K⟩|⟨k,M,v⟩
     . have g := Dz e (by rw [dL e]; exact v)
       refine zg ?_
       repeat' ((refine zp ?_ ?_<;>first|exact⟨⟩|intro h)<;>refine zg ?_)
       (refine⟨⟨p+1,e⟩,(by(conv=>whnf);(repeat' first|exact True.intro|apply And.intro|rfl|(refine oD ?_;first|(exact(congrArg Int.ofNat g).symm;done)|(rw[aF aa aa];dsimp only;omega)))),rfl,dC⟩)
     . have g := DA z e (by rw [dL e]; exact v)
       refine zg ?_
       repeat' ((refine zp ?_ ?_<;>first|exact⟨⟩|intro h)<;>refine zg ?_)
       (refine⟨⟨p+1,e⟩,(by(conv=>whnf);(repeat' first|exact True.intro|apply And.intro|rfl|(refine oD ?_;first|((rw[aF aa aa,g.2,g.1];rfl);done)|(rw[aF aa aa];dsimp only;omega)))),rfl,dC⟩)
   . have g : cj a[q] p = c.b.l[q].ins.l.length := (yV e).trans (Dy z)
     refine zg ?_
     repeat' ((refine zp ?_ ?_<;>first|exact⟨⟩|intro h)<;>refine zg ?_)
     (refine⟨⟨q+1,f⟩,(by(conv=>whnf);(repeat' first|exact True.intro|apply And.intro|rfl|(refine oD ?_;(rw[aF aa aa];dsimp only;omega)))),rfl,dC⟩)
 . refine zg ?_
   repeat' ((refine zp ?_ ?_<;>first|exact⟨⟩|intro h)<;>refine zg ?_)
   all_goals exact⟨⟩
end Go.Ago
namespace Go.Ago
open Go.Proofs List Nat Tryz
attribute [local irreducible] bN bM aZ bK b_ wr bp bL comp DC DP DW DV
attribute [local irreducible] dJ ct aL cH dP dI ec dX cB dM dR bV bn bB eA eL
theorem Rx {k:Int}{i:Ins}(h:pq k i):(i.d<k∧i.a<k∧i.b<k)∨(i.op=3∧k≤i.d∧i.a<k∧i.b<k)∨(i.op=3∧i.d<k∧k≤i.a∧i.b<k)∨(i.op=3∧i.d<k∧i.a<k∧k≤i.b):=by
 unfold pq at h
 by_cases e:k≤i.d<;>by_cases f:k≤i.a<;>by_cases c:k≤i.b<;>simp only[e,f,c,if_true,if_false] at h<;>omega
theorem PF (a b c:AV):chunk [a,b,c] ((wr .i64 (0+1)).toNat * o6.size) o6.size=some [b]:=aG
theorem PG (a b c:AV):chunk [a,b,c] ((wr .i64 (wr .i64 (0+1)+1)).toNat * o6.size) o6.size=some [c]:=aG
theorem Ry (d:Cd)(k:Int)(o:zK k d):af 58 [d.av,i64 k] (fun r=>r = .ret (.bool true)):=by
 refine zw func58 ?_;have w:=d.b.h;have v:wr .i64 (0+1)=1:=by rw[aF aa aa];rfl
 have m:wr .i64 (wr .i64 (0+1)+1)=2:=by rw[v,aF aa aa];rfl
 have z:wr .i64 (wr .i64 (wr .i64 (0+1)+1)+1)=3:=by rw[m,aF aa aa];rfl
 conv=>whnf
 refine DW.aO aC aD [1,4,13,14] [] 0 (fun q:{q:Nat // q≤d.b.l.length}=>[(15,i64 q.1)]) (fun _=>[]) [] (fun q=>d.b.l.length - q.1) (⟨0,zero_le _⟩) ?_
 refine zl fun x=>?_
 obtain⟨q,n⟩:=x;dsimp only;rcases Nat.lt_or_ge q d.b.l.length with c|c
 . obtain ⟨A, s⟩ := o _ (getElem_mem c)
   have t:=d.b.l[q].ins.h;refine zg ?_
   repeat' ((refine zp ?_ ?_<;>first|exact⟨⟩|intro h)<;>refine zg ?_)
   refine DW.aO aC aD [1,4,6,13,14,15,16,17,18,19,20,21,22,23,24,25] [] 0 (fun p:{p:Nat // p≤d.b.l[q].ins.l.length}=>[(26,i64 p.1)]) (fun _=>[]) [] (fun p=>d.b.l[q].ins.l.length - p.1) (⟨0,zero_le _⟩) ?_
   refine zl fun y=>?_
   obtain⟨p,u⟩:=y;dsimp only;rcases Nat.lt_or_ge p d.b.l[q].ins.l.length with e|e
   . rcases Rx (s _ (getElem_mem e)) with ⟨a, f, g⟩ | ⟨i, a, f, g⟩ | ⟨i, a, f, g⟩ | ⟨i, a, f, g⟩
     all_goals
      refine zk ?_
      repeat' ((first|refine ay.mk _ (PF _ _ _) ?_|refine ay.mk _ (PG _ _ _) ?_|(refine zp ?_ ?_<;>first|exact⟨⟩|intro h)|refine ay.mk _ (bI aa) ?_|refine DW.rounds aC aD 4 ?_|refine zo ?_)<;>refine zk ?_)
      exact zi ⟨p+1,e⟩
   . refine zg ?_
     repeat' ((refine zp ?_ ?_<;>first|exact⟨⟩|intro h)<;>refine zg ?_)
     exact zi ⟨q+1,c⟩
 . refine zg ?_
   repeat' ((refine zp ?_ ?_<;>first|exact⟨⟩|intro h)<;>refine zg ?_)
   all_goals exact⟨⟩
end Go.Ago
