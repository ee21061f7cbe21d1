/-
  Part B34: lemmas, each with its own conditions.
-/
import Derived.Test.YthaolifcglpkdaaGreatDoorB33
set_option maxRecDepth 100000
set_option maxHeartbeats 0
set_option linter.all false
section
namespace Go.Ago
open Go.Proofs List Nat Tryz
attribute [local irreducible] bA bw aV bp bG wr aZ bF comp DC DP DW DV
attribute [local irreducible] dU bB eB iz cy bn aW aY aQ aH di eX jS
theorem mf (ws:List aA)(b:ws.length≤1)(n:Int)(h:0≤n∧n≤64 * (ws.length:Int)):af 39 [gb ws,i64 n] (fun a=>a = .ret (aT (bn ws n.toNat))):=
 Vj ⟨ws,aa⟩ n ⟨h.1,h.2,aa⟩
def kV (S:List (List aA))(k:Nat):aA:=(aK S k).headD 0
theorem yG {g:Gr}{S:List (List aA)}(b:ShS g S)(h0:cn g=0){k:Nat}(a:k≤g.ins.l.length):aK S k=[]:=zbh (by rw[eK b a,h0])
theorem vd {g:Gr}{S:List (List aA)}(b:ShS g S)(h0:cn g=1){k:Nat}(a:k≤g.ins.l.length):aK S k=[kV S k]:=by
 have:=eK b a;unfold kV;rcases c:aK S k with _|⟨w,_|⟨_,_⟩⟩<;>simp_all
theorem qw {g:Gr}{S:List (List aA)}(b:ShS g S){k:Nat}(c:k≤g.ins.l.length){x:Int}(d:x=(k:Int)){ws:List aA}(e:aK S k=ws):(S.map fun ws=>[gb ws])[x.toNat]? = some [gb ws]:=by
 have a:k<S.length:=by rw[b.len];omega
 simp_all
attribute [local irreducible] kV
theorem I3 {g:Gr}{S:List (List aA)}{k:Nat}(h:k<g.ins.l.length)(a:0≤aH g.ins.l[k]):oF g S k=bn (eB (aK S (k+1)) (aH g.ins.l[k]).toNat) g.ah.toNat:=by
 unfold oF Au;grind
theorem I2 {g:Gr}{S:List (List aA)}{k:Nat}(h:k<g.ins.l.length)(a:¬0≤aH g.ins.l[k]):oF g S k=bn (aK S (k+1)) g.ah.toNat:=by
 unfold oF Au;grind
theorem QI (w:aA):cM 75 [.ak 1 [j1 w]] .nil 0 (fun b H' _=>b = .ret (.ay 5 0 1 1)∧H'.get 5=some (bV [w])):=by
 refine zd func75 ?_;refine zg ?_
 repeat' (refine zf ?_<;>refine zg ?_)
 exact⟨rfl,rfl⟩
theorem H4 {n:Int}{a b c d:Nat}{ρ:Nat->Nat}(f:a=c)(e:b=d):AV.int .i64 (bF true (bF true n (a:Int)) (b:Int))=(AV.int .i64 (max (max n (c:Int)) (d:Int))).r2 ρ:=by
 subst f;subst e;simp[VY,AV.r2,AV.r1,AV.ra,AV.r0]
theorem Xx (w:aA)(r:Nat):(eB [w] r).length≤1:=by rw[sJ];simp
theorem Xy {n:Int}{w:aA}{r:Nat}(h:0≤n∧n≤64 * ((1:Nat):Int)):0≤n∧n≤64 * ((eB [w] r).length:Int):=by rw[sJ];exact h
theorem Xl (g:Gr)(hg:cN g)(S:List (List aA))(b:ShS g S)(a:cn g=0):af 36 [g.av,.ak 1 (S.map fun ws=>[gb ws])] (eS (vL g S)):=by
 refine zw func36 ?_;have hil:=g.ins.h;have hfew:=hg.eT;have hregs:=hg.ah;have hge:=mh hg;rw[a] at hge;have hsl:=b.len;have hS0:∀k (h:k<g.ins.l.length),aH g.ins.l[k]<0:=fun k h=>by have:=hg.gx _ (za9 h);omega
 conv=>whnf
 refine DW.aO aC aD [1,2,4,11,12] [] 1000 (fun i:{x:Nat×Int // lW g S x.1 x.2∧x.1≤g.ins.l.length}=>[(13,i64 i.1.1),(5,i64 i.1.2)]) (fun _=>[]) [] (fun i=>g.ins.l.length+1 - i.1.1) (⟨(0,0),lW.nil,zbq _⟩) ?_
 refine zl fun i=>?_
 have hib:=i.2.2;have hwi:wr .i64 ((i.1.1:Int)+1)=(i.1.1:Int)+1:=aE aa aa;refine zk ?_
 repeat' ((first|refine az.mk _ (qw b (k:=i.1.1) aa rfl (yG b a aa)) ?_|(refine az.mk _ (qw b (k:=i.1.1+1) aa (by rw[aE aa aa];omega) (yG b a aa)) ?_)|(refine zb ?_ ?_<;>(intro h)<;>try (exfalso;(exact absurd h (Int.not_le.2 (hS0 _ _)))))|refine az.mk _ (bO aa) ?_|(refine DC.pure rfl (oY (g.ins.l[i.1.1]'aa)) ?_;rintro _ rfl)|(refine DC.pure rfl QJ ?_;rintro _ rfl)|(refine zh rfl (mf [] ag g.ah eE) ?_;rintro _ rfl)|(refine DC.pure rfl (mf [] ag g.ah eE) ?_;rintro _ rfl))<;>refine zk ?_)
 all_goals first
  | exact⟨_,rfl,by have:=i.2.1;rw[show i.1.1=g.ins.l.length by omega] at this;exact this⟩
  | (have c : i.1.1 < g.ins.l.length := aa
     have dy:=i.2.1.step;refine⟨⟨(i.1.1+1,_),dy,c⟩,?_,rfl,by(dsimp only;omega)⟩
     conv=>whnf
     repeat' first|exact True.intro|(refine H4 ?_ ?_;(rw[zba,sx,yG b a hib]);((rw[zba,I2 c (Int.not_le.2 h),yG b a c])))|rfl|apply And.intro|(refine cw ?_ ?_ ?_<;>(try dsimp only)<;>omega))
theorem Xm (g:Gr)(hg:cN g)(S:List (List aA))(c:ShS g S)(a:cn g=1):af 36 [g.av,.ak 1 (S.map fun ws=>[gb ws])] (eS (vL g S)):=by
 refine zw func36 ?_;have hil:=g.ins.h;have hfew:=hg.eT;have d:=hg.ah;have hge:=mh hg;rw[a] at hge;have hsl:=c.len;have hS1:∀k (h:k<g.ins.l.length),aH g.ins.l[k]<64 * ((1:Nat):Int):=fun k h=>by have:=hg.gx _ (za9 h);omega
 have e:0≤g.ah∧g.ah≤64 * ((1:Nat):Int):=⟨d.1,aa⟩
 conv=>whnf
 refine DW.aO aC aD [1,2,4,11,12] [] 1000 (fun i:{x:Nat×Int // lW g S x.1 x.2∧x.1≤g.ins.l.length}=>[(13,i64 i.1.1),(5,i64 i.1.2)]) (fun _=>[]) [] (fun i=>g.ins.l.length+1 - i.1.1) (⟨(0,0),lW.nil,zbq _⟩) ?_
 refine zl fun i=>?_
 have hib:=i.2.2;have hwi:wr .i64 ((i.1.1:Int)+1)=(i.1.1:Int)+1:=aE aa aa;refine zk ?_
 repeat' ((first|refine az.mk _ (qw c (k:=i.1.1) aa rfl (vd c a aa)) ?_|(refine az.mk _ (qw c (k:=i.1.1+1) aa (by rw[aE aa aa];omega) (vd c a aa)) ?_)|(refine zp ?_ ?_<;>intro h)|refine az.mk _ (bO aa) ?_|(refine DC.pure rfl (oY (g.ins.l[i.1.1]'aa)) ?_;rintro _ rfl)|refine DC.new rfl (QI (kV S (i.1.1+1))) rfl rfl ?_|(refine DC.ng (u0 [(kV S (i.1.1+1))] rfl (aH (g.ins.l[i.1.1]'aa)) ⟨h,hS1 _ _⟩ (zbm 1)) rfl rfl rfl cU ?_;rintro _ H' _ ⟨rfl,h0⟩;refine⟨rfl,_,h0,cU,?_⟩)|(refine DC.pZ rfl (fj (f:=j1) (n:=19) (l:=[(kV S (i.1.1+1))]) (fun _=>rfl) rfl rfl rfl) ?_;refine DC.pure rfl (mf [(kV S (i.1.1+1))] (zbm 1) g.ah e) ?_;rintro _ rfl)|(refine DC.pZ rfl (fj (f:=j1) (n:=19) (l:=(eB [(kV S (i.1.1+1))] (aH (g.ins.l[i.1.1]'aa)).toNat)) (fun _=>rfl) rfl rfl (sJ (ws:=[(kV S (i.1.1+1))]) (r:=(aH (g.ins.l[i.1.1]'aa)).toNat)).symm) ?_;refine DC.pure rfl (mf (eB [(kV S (i.1.1+1))] (aH (g.ins.l[i.1.1]'aa)).toNat) (Xx _ _) g.ah (Xy e)) ?_;rintro _ rfl)|(refine zh rfl (mf [kV S i.1.1] ag g.ah eE) ?_;rintro _ rfl))<;>refine zk ?_)
 all_goals first
  | exact⟨_,rfl,by have:=i.2.1;rw[show i.1.1=g.ins.l.length by omega] at this;exact this⟩
  | (have b : i.1.1 < g.ins.l.length := aa
     have dy:=i.2.1.step;refine⟨⟨(i.1.1+1,_),dy,b⟩,?_,rfl,by(dsimp only;omega)⟩
     conv=>whnf
     repeat' first|exact True.intro|(refine H4 ?_ ?_;(rw[zba,sx,vd c a hib]);(first|(rw[zba,I2 b (Int.not_le.2 h),vd c a b])|(rw[zba,I3 b h,vd c a b])))|rfl|apply And.intro|(refine cw ?_ ?_ ?_<;>(try dsimp only)<;>omega))
theorem Xn (g:Gr)(a:cN g)(S:List (List aA))(b:ShS g S):af 36 [g.av,.ak 1 (S.map fun ws=>[gb ws])] (eS (vL g S)):=by
 have:=qp a;rcases zbI (cn g) 1 with h|h
 . exact Xl g a S b aa
 exact Xm g a S b aa
end Go.Ago
end
namespace Go.Ago
open Go.Proofs List Nat Tryz
attribute [local irreducible] bA bw aV bp bG wr aZ bF comp DC DP DW DV
attribute [local irreducible] dU bB eB iz cy bn aW aY aQ aH di eX jS iJ ek kV
structure iT (g:Gr)(C:List (List aA)):Prop where
 len:C.length=g.ah.toNat
 row:∀ws∈C,ws.length=cn g
def gu (C:List (List aA))(k r:Nat):List (List aA):=C.set k (eB (aK C k) r)
theorem vc {g:Gr}{C:List (List aA)}(h:iT g C){k:Nat}(b:k<g.ah.toNat):(aK C k).length=cn g:=by
 have a:k<C.length:=by rw[h.len];omega
 rw[aK,getD,zbf a];exact h.row _ (ag)
theorem iT.put {g:Gr}{C:List (List aA)}(h:iT g C){k r:Nat}(b:k<g.ah.toNat):iT g (gu C k r):=by
 refine⟨by rw[gu,zbP,h.len],fun c a=>?_⟩
 rcases mem_or_eq_of_mem_set a with a|rfl
 . exact h.row _ a
 rw[sJ,vc h b]
theorem Kk {g:Gr}{C:List (List aA)}(h:iT g C){k j r:Nat}(c:k<g.ah.toNat):aK (gu C k r) j=if j=k then eB (aK C k) r else aK C j:=by
 have a:k<C.length:=by rw[h.len];omega
 by_cases b:j=k
 . subst b;simp[gu,a]
 . simp[gu,zbV (Ne.symm _),b]
theorem pG {g:Gr}(d:cN g){C:List (List aA)}(h:iT g C){k j r s:Nat}(a:k<g.ah.toNat)(e:r<g.ah.toNat)(c:bB (aK C j) s=true):bB (aK (gu C k r) j) s=true:=by
 rw[Kk h a]
 by_cases b:j=k
 . subst b
   rw[if_pos rfl,wm (by rw[vc h a];grind),c,Bool.or_true]
 grind
theorem E8 {g:Gr}(c:cN g){C:List (List aA)}(h:iT g C){k r:Nat}(a:k<g.ah.toNat)(b:r<g.ah.toNat):bB (aK (gu C k r) k) r=true:=by
 rw[Kk h a,if_pos rfl,wm (by rw[vc h a];grind)]
 simp
theorem GS {C:List (List aA)}{k j r:Nat}(c:k<C.length):di (gu C k r) j=if j=k then some (bV (eB (aK C k) r)) else di C j:=by
 rw[nc,nc]
 by_cases a:j=k
 . subst a;rw[if_pos rfl,dif_pos (by simpa[gu] using c)];simp[gu]
 . rw [if_neg a]
   by_cases b:j<C.length
   . simp[gu,getElem_set_ne (Ne.symm a)]
   . rw[dif_neg (by simpa[gu] using b),dif_neg b]
def NU (g:Gr)(S C:List (List aA))(k r:Nat):Prop:=∀h:k<g.ins.l.length,0≤aH g.ins.l[k]->cS g.ins.l[k]->(r:Int)<g.ah->bB (aK S (k+1)) r=true->(r:Int)≠aH g.ins.l[k]->bB (aK C (aH g.ins.l[k]).toNat) r=true∧bB (aK C r) (aH g.ins.l[k]).toNat=true
def nY (g:Gr)(S C:List (List aA))(m:Nat):Prop:=∀k r,k<m->NU g S C k r
structure tE (g:Gr)(S:List (List aA)) where
 m:Nat
 C:List (List aA)
 hm:m≤g.ins.l.length
 sh:iT g C
 cl:nY g S C m
structure mJ (g:Gr)(S:List (List aA))(m d:Nat)(L:List Int) where
 j:Nat
 C:List (List aA)
 hj:j≤L.length
 sh:iT g C
 cl:nY g S C m
 dn:∀r∈L.take j,r≠(d:Int)->bB (aK C d) r.toNat=true∧bB (aK C r.toNat) d=true
theorem nY.put {g:Gr}(b:cN g){S C:List (List aA)}{m:Nat}(c:iT g C)(h:nY g S C m){k r:Nat}(d:k<g.ah.toNat)(e:r<g.ah.toNat):nY g S (gu C k r) m:=
 fun q p a l f i o n j=>(h _ _ a _ f i o n j).imp (pG b c d e) (pG b c d e)
theorem mJ.skip {g:Gr}{S:List (List aA)}{m d:Nat}{L:List Int}(x:mJ g S m d L)(b:x.j<L.length)(c:L[x.j]=(d:Int)):∃y:mJ g S m d L,y.j=x.j+1∧y.C=x.C:=
 ⟨⟨x.j + 1, x.C, b, x.sh, x.cl, fun r h a => by
   rw[zbi b] at h;rcases zbL.1 h with h|h
   . exact x.dn r h a
   grind⟩,rfl,rfl⟩
theorem mJ.put {g:Gr}(c:cN g){S:List (List aA)}{m d:Nat}{L:List Int}(x:mJ g S m d L)(i:x.j<L.length)(b:d<g.ah.toNat)(k:0≤L[x.j]∧L[x.j]<g.ah) :
 ∃y:mJ g S m d L,y.j=x.j+1∧y.C=gu (gu x.C d (L[x.j]).toNat) (L[x.j]).toNat d:=by
 have a:(L[x.j]).toNat<g.ah.toNat:=aa;have e:=x.sh.put (r:=(L[x.j]).toNat) b;refine⟨⟨x.j+1,_,i,e.put a,(x.cl.put c x.sh b a).put c e a b,fun r h f=>?_⟩,rfl,rfl⟩
 rw[zbi i] at h;rcases zbL.1 h with h|h
 . exact(x.dn r h f).imp (fun h=>pG c e a b (pG c x.sh b a h)) fun h=>pG c e a b (pG c x.sh b a h)
 . obtain rfl := zbU.1 h
   exact⟨pG c e a b (E8 c x.sh b a),E8 c e a b⟩
theorem tE.skip {g:Gr}{S:List (List aA)}(x:tE g S)(a:x.m<g.ins.l.length)(h:¬(0≤aH g.ins.l[x.m]∧cS g.ins.l[x.m])):∃y:tE g S,y.m=x.m+1∧y.C=x.C:=
 ⟨⟨x.m + 1, x.C, a, x.sh, fun k r e f d c => by
   rcases zbI k _ with b|b
   . exact x.cl k r b _ d c
   grind⟩,rfl,rfl⟩
theorem mJ.out {g:Gr}{S:List (List aA)}{m d:Nat}(a:m<g.ins.l.length)(e:aH g.ins.l[m]=(d:Int))(x:mJ g S m d (bn (aK S (m+1)) g.ah.toNat))(i:(bn (aK S (m+1)) g.ah.toNat).length≤x.j):∃y:tE g S,y.m=m+1∧y.C=x.C:=
 ⟨⟨m + 1, x.C, a, x.sh, fun k r t q p n o f c => by
   rcases zbI k m with h|h
   . exact x.cl k r h q p n o f c
   . obtain rfl : k = m := aa
     have s:(r:Int)∈(bn (aK S (k+1)) g.ah.toNat).take x.j:=by
      rw[zbj i];exact nw.2 ⟨r,rfl,aa,f⟩
     have:=x.dn r s (by rw[<-e];exact c)
     rw[e]
     simpa using this⟩,rfl,rfl⟩
theorem Yc {C:List (List aA)}{d r j:Nat}{o:an}{ρ:Nat->Nat}{l:Nat}{T:aj}(g:d<C.length)(k:r<C.length)(c:r≠d)(i:j<bY)(h:di (gu (gu C d r) r d) j=some o) :
 dO (aW fA j) (fun x=>x=o.cp ρ∧o.lt l) (.put (aW fA r) (some (bV (eB (aK C r) d))) (.put (aW fA d) (some (bV (eB (aK C d) r))) (.fx fA bY (di C) T))):=by
 have b:r<(gu C d r).length:=by simpa[gu] using k
 have e:aK (gu C d r) r=aK C r:=by simp[aK,gu,getD,zbV (Ne.symm c)]
 rw[GS b,e,GS g] at h
 by_cases f:j=r
 . subst f;rw[if_pos rfl] at h;cases h;exact Hz ⟨mu,jR⟩
 . rw [if_neg f] at h
   refine Hy f ?_
   by_cases a:j=d
   . subst a;rw[if_pos rfl] at h;cases h;exact Hz ⟨mu,jR⟩
   . rw [if_neg a] at h
     exact Hy a (xj i h (wW h))
theorem nr {ws:List aA}{n:Int}{r:Int}(h:r∈bn ws n.toNat):0≤r∧r<n:=by
 obtain⟨k,rfl,a,_⟩:=nw.1 h;omega
theorem Kr {n a:Nat}{x:Int}(b:0≤x∧x<(n:Int)):(ek n a)[0+x.toNat]? = some [AV.ay (aW fA x.toNat) 0 a 1]:=mw aa aa
theorem Y7 {g:Gr}(i:cN g){C:List (List aA)}(d:iT g C){T:aj}:snap (.fx fA bY (di C) (.put 7 (some (.arr 1 (ek g.ah.toNat (cn g)))) T)) 20 (.ay 7 0 g.ah.toNat 1)=some (.ak 1 (C.map fun ws=>[gb ws])):=by
 have t:bY=1048576:=rfl;have h:=i.ah;have q:(Tr.fx fA bY (di C) (.put 7 _ T)).get 7=some (.arr 1 (ek g.ah.toNat (cn g))):=rfl;have b:(ek g.ah.toNat (cn g)).length=g.ah.toNat:=by with_unfolding_all simp[ek]
 have o:List.take g.ah.toNat (List.drop 0 (ek g.ah.toNat (cn g)))=ek g.ah.toNat (cn g):=by grind
 have p:aM (aM (snap (.fx fA bY (di C) (.put 7 (some (.arr 1 (ek g.ah.toNat (cn g)))) T)) 19)) (ek g.ah.toNat (cn g))=some (C.map fun ws=>[gb ws]):=by
  have h:C.map (fun ws=>[gb ws])=(List.range g.ah.toNat).map fun j=>[gb (aK C j)]:=by
   refine zcx (by simp[d.len]) fun j s r=>?_
   grind
  rw[h,show ek g.ah.toNat (cn g)=(List.range g.ah.toNat).map _ by with_unfolding_all rfl]
  refine Cx fun j c=>?_
  have c:=zcf.1 c;have a:(Tr.fx fA bY (di C) (.put 7 (some (.arr 1 (ek g.ah.toNat (cn g)))) T)).get (aW fA j)=some (bV (aK C j)):=(ke aa).trans (jy (by rw[d.len];omega))
  rw[show ek g.ah.toNat (cn g)=(List.range g.ah.toNat).map _ by with_unfolding_all rfl] at a
  have:=fj (k:=aW fA j) (n:=18) (f:=j1) (l:=aK C j) (m:=cn g) (sz:=1) (fun _=>rfl) a rfl (vc d c).symm
  exact aJ this rfl
 exact oZ (n:=19) q (by rw[b];omega) (by rw[o];exact p)
theorem JY {g:Gr}(b:cN g){C:List (List aA)}(c:iT g C){k:Nat}{r:Int}(d:k<g.ah.toNat)(e:0≤r∧r<g.ah):cM 77 [.ay 0 0 (cn g) 1,i64 r] (.put 0 (some (bV (aK C k))) .nil) 1 (fun a H' _=>a = .ret (.ao [])∧H'.get 0=some (bV (eB (aK C k) r.toNat))):=
 u0 _ (vc c d) r ⟨e.1,by grind⟩ (qp b)
theorem xB {g:Gr}{C:List (List aA)}(b:iT g C){k:Nat}(a:k<g.ah.toNat):k<C.length:=by rw[b.len];exact a
theorem vb {ws:List aA}{n r:Int}(h:r∈bn ws n.toNat):r.toNat<n.toNat:=by have:=nr h;omega
theorem yE {g:Gr}(a:cN g){k:Nat}(b:k<g.ah.toNat):k<bY:=by have:=a.ah;grind
theorem toNat_ne {a b:Int}(d:0≤a)(c:0≤b)(h:¬a=b):a.toNat≠b.toNat:=aa
theorem XS {g:Gr}{k:Nat}(h:k=g.ah.toNat):iT g (kp g k):=⟨by simp[h],fun b a=>by grind⟩
theorem YD {g:Gr}(a:cN g){k:Nat}(h:k<g.ins.l.length)(h0:0≤aH g.ins.l[k]):0≤aH g.ins.l[k]∧aH g.ins.l[k]<(g.ah.toNat:Int):=by
 have:=a.gx _ (za9 h);omega
theorem XP {n a k m:Nat}{l:List (Nat×Nat)}(c:ble (fA+bY) m=true)(d:n≤1001)(b:n≤k):an.arr 1 (iJ n a k)=(an.arr 1 (ek n a)).cp (eC m fA (aW fA) l):=by
 rw[Kw b];exact mr c d
theorem Hs {A i n:Nat}{v:Option an}{t:aj}{o:Option an}(hi:i<bY)(h:(blt n A || ble (A+bY) n)=true)(e:t.get n=o):(Tr.put (aW A i) v t).get n=o:=by
 have:beq n (aW A i)=false:=by
  cases e:beq n _ with
  | false=>rfl
  | true =>
    have:=zbl e;rw[zbQ] at h;rcases h with h|h<;>have h:=zbb h<;>unfold aW at *<;>omega
 rw[Tr.get,this];exact e
theorem Iu {g:Gr}(a:0≤g.ah∧g.ah≤64){ws:List aA}{r:Int}(h:r∈bn ws g.ah.toNat):0≤r∧r<(g.ah.toNat:Int):=by have:=nr h;omega
theorem s9 {x:Int}{n:Nat}(h:0≤x∧x<(n:Int)):x.toNat<n:=aa
theorem TG {x:Int}{n:Nat}(h:0≤x∧x<(n:Int)):aZ x n=true:=by rw[hY];exact h
theorem YE {g:Gr}(a:cN g){k:Nat}(h:k<g.ins.l.length)(h0:0≤aH g.ins.l[k]∧aH g.ins.l[k]<(g.ah.toNat:Int)):0≤aH g.ins.l[k]∧aH g.ins.l[k]<g.ah:=by
 grind
theorem Qs (g:Gr)(c:cN g):af 51 [g.av] (fun ae=>∃C S,ae = .ret (.ak 1 (C.map fun ws=>[gb ws]))∧iT g C∧fD g S∧nY g S C g.ins.l.length):=by
 refine zw func51 ?_;have hil:=g.ins.h;have hF:bY=1048576:=rfl;have hfew:=c.eT;have b:=c.ah;have hnw:=qp c;have hge:=mh c;refine zg ?_
 repeat' ((first|refine Rq.mk (su (l':=g.ah) rfl rfl aa ab rfl) ?_|(refine DC.pure rfl (Iy g c) ?_;rintro _ ⟨S,rfl,hS⟩))<;>refine zg ?_)
 have hsl:=hS.len;refine DW.jQ aC aD [1,2,3,4,17] [7] 2000000 fA (fun i:{i:Nat // i≤g.ah.toNat}=>[(18,i64 i.1)]) (fun i=>[(7,.arr 1 (iJ g.ah.toNat (cn g) i.1))]) (fun i=>di (kp g i.1)) [] (fun i=>g.ah.toNat+1 - i.1) (⟨0,zbq _⟩) ?_
 conv=>whnf
 refine⟨⟨_,df.grow (k:=0) (NEW:=2000022) rfl rfl rfl rfl ?_ ?_ rfl (fun j o _ _ h=>(yx h).elim) (fun o h=>(yx h).elim) rfl⟩,fun i=>?_⟩
 . (exact zE)
 . (repeat' (first|exact jJ|(refine jI (x:=?_) ?_ ?_ ?_ ?_ ?_ ?_;rotate_left;exact rfl;exact rfl;exact rfl;(first|(refine Kt ?_;rfl)|rfl);(first|(refine xG ?_ ?_<;>first|rfl|omega)|rfl))))
 refine zk ?_
 repeat' ((first|(refine zp ?_ ?_<;>intro h)|refine DC.new rfl (CG g.ah b) DA rfl ?_|refine bR (Kv aa) ?_)<;>refine zk ?_)
 . have hi : i.1 < g.ah.toNat := aa
   refine⟨⟨i.1+1,hi⟩,_,df.grow (k:=i.1) (NEW:=2000022) rfl rfl rfl rfl ?_ ?_ rfl ?_ ?_ rfl,rfl,?_⟩
   . (exact zE)
   . (repeat' (first|exact jJ|(refine jI (x:=?_) ?_ ?_ ?_ ?_ ?_ ?_;rotate_left;exact rfl;exact rfl;exact rfl;(first|(refine J7 ?_ ?_ ?_ ?_;exact rfl;omega;(show i.1<_;omega);simp)|rfl);(first|(refine xG ?_ ?_<;>first|rfl|omega)|rfl))))
   . intro j o hj hjk hg0
     have n:di (kp g (i.1+1)) j=some o:=hg0;rw[Ka hjk] at n
     (repeat' first|exact xj hj n (wW n)|(refine BV hj ?_ ?_;(rfl))|(refine BW ?_ ?_;(rfl)))
   . intro o ho
     obtain rfl:=J_ ho;exact rW (o:=bV (gj (cn g))) rfl ⟨mu,jR⟩
   . dsimp only;omega
 have p:g.ah.toNat≤i.1:=aa;refine DW.jQ aC aD [1,2,3,4,29,30] [7] 10000 fA (fun x:tE g S=>[(31,i64 x.m)]) (fun x=>[(7,.arr 1 (ek g.ah.toNat (cn g)))]) (fun x=>di x.C) [] (fun x=>g.ins.l.length+1 - x.m) (⟨0,kp g i.1,zbq _,XS (by have:=i.2;omega),fun k r h=>absurd h (zbK _)⟩) ?_
 conv=>whnf
 refine⟨⟨_,df.inner rfl rfl fk (by(repeat' (first|exact jJ|(refine jI (x:=?_) ?_ ?_ ?_ ?_ ?_ ?_;rotate_left;exact rfl;exact rfl;exact rfl;(first|(refine XP ?_ ?_ p<;>first|rfl|omega)|rfl);(first|(refine lI ?_ ?_<;>first|rfl|omega)|rfl))))) rfl im rfl⟩,fun x=>?_⟩
 have hxm:=x.hm;have hwx:wr .i64 ((x.m:Int)+1)=(x.m:Int)+1:=aE aa aa;refine zk ?_
 repeat' ((first|(refine az.mk _ (qw hS.toShS (k:=x.m+1) aa (by rw[aE aa aa];omega) rfl) ?_)|(refine zp ?_ ?_<;>intro h)|refine az.mk _ (bO aa) ?_|(refine DC.pure rfl (oY (g.ins.l[x.m]'aa)) ?_;rintro _ rfl)|(refine DC.pure rfl (wV (g.ins.l[x.m]'aa)) ?_;rintro _ (⟨rfl,hf⟩|⟨rfl,hf⟩))|(refine zh rfl (mf (aK S (x.m+1)) (by rw[eK hS.toShS aa];exact hnw) g.ah (by rw[eK hS.toShS aa];omega)) ?_;rintro _ rfl))<;>refine zk ?_)
 all_goals first
  | (generalize hg2 : snap _ 20 _ = rr
     obtain rfl:=hg2.symm.trans (Y7 c x.sh)
     conv=>whnf
     exact⟨x.C,S,rfl,x.sh,hS,by have:=x.cl;rw[show x.m=g.ins.l.length by omega] at this;exact this⟩)
  | (have d : x.m < g.ins.l.length := aa
     obtain⟨y,q,hy2⟩:=x.skip d (by first|exact fun hh=>absurd hh.1 (Int.not_le.2 bD)|exact fun hh=>absurd hh.2 bD)
     refine⟨y,_,df.inner rfl rfl fk lP rfl vz rfl,rfl,?_⟩;show g.ins.l.length+1 - y.m<g.ins.l.length+1 - x.m;omega)
  | skip
 have d:x.m<g.ins.l.length:=aa;have a:=YD c d aa;have hd:aH g.ins.l[x.m]=((aH g.ins.l[x.m]).toNat:Int):=aa;refine DW.jQ aC aD [1,2,3,4,6,7,8,29,30,31,32,33,34,35,36,37,38,39,40,41,42,43,44,45,46,47,48,49,50,51,52,53] [] 10000 fA (fun y:mJ g S x.m (aH (g.ins.l[x.m]'aa)).toNat (bn (aK S (x.m+1)) g.ah.toNat)=>[(54,i64 y.j)]) (fun y=>[]) (fun y=>di y.C) [] (fun y=>(bn (aK S (x.m+1)) g.ah.toNat).length+1 - y.j) (⟨0,x.C,zbq _,x.sh,x.cl,ag⟩) ?_
 conv=>whnf
 refine⟨⟨_,df.inner rfl rfl fk lP rfl im rfl⟩,fun y=>?_⟩
 have hyj:=y.hj;have hll:=@sf (aK S (x.m+1)) g.ah.toNat;refine zk ?_
 repeat' ((first|(refine Vo (A:=fA) ?_ ?_;exact rfl)|refine Rq.mk (TG (Iu b (za9 _))) ?_|(refine zp ?_ ?_<;>intro h)|refine az.mk _ (bO aa) ?_|refine bR (Kr a) ?_|refine bR (Kr (Iu b (za9 _))) ?_|(refine DC.ng (k:=aW fA (aH (g.ins.l[x.m]'aa)).toNat) (JY c y.sh (s9 a) (nr (za9 _))) rfl rfl ((ke (yE c (s9 a))).trans (jy (xB y.sh (s9 a)))) cU ?_;rintro _ H' _ ⟨rfl,h0⟩;refine⟨rfl,_,h0,cU,?_⟩)|(refine DC.ng (k:=aW fA ((bn (aK S (x.m+1)) g.ah.toNat)[y.j]'aa).toNat) (JY c y.sh (vb (za9 _)) (YE c d a)) rfl rfl (Hp (toNat_ne (nr (za9 _)).1 a.1 h) ((ke (yE c (vb (za9 _)))).trans (jy (xB y.sh (vb (za9 _)))))) cU ?_;rintro _ H' _ ⟨rfl,h0⟩;refine⟨rfl,_,h0,cU,?_⟩))<;>refine zk ?_)
 all_goals first
  | (have e : y.j < (bn (aK S (x.m + 1)) g.ah.toNat).length := aa
     have cF:¬(bn (aK S (x.m+1)) g.ah.toNat)[y.j]=aH g.ins.l[x.m]:=h;have hrr:=nr (za9 e);obtain⟨f,q,hy2⟩:=y.put c e (s9 a) hrr;refine⟨f,_,df.inner rfl rfl fk (by(repeat' (first|exact jJ|(refine jI (x:=?_) ?_ ?_ ?_ ?_ ?_ ?_;rotate_left;exact rfl;exact rfl;refine Hs ?_ ?_ (Hs ?_ ?_ ?_);exact yE c (vb (za9 e));exact rfl;exact yE c (s9 a);exact rfl;exact rfl;(first|(refine mr ?_ ?_<;>first|rfl|omega)|rfl);(first|(refine lI ?_ ?_<;>first|rfl|omega)|rfl))))) rfl (by(intro j o hj hg0;rw[hy2] at hg0;exact Yc (xB y.sh (s9 a)) (xB y.sh (vb (za9 _))) (toNat_ne hrr.1 a.1 cF) hj hg0)) rfl,rfl,?_⟩
     show _+1 - f.j<_+1 - y.j;omega)
  | (have e : y.j < (bn (aK S (x.m + 1)) g.ah.toNat).length := aa
     have heq:(bn (aK S (x.m+1)) g.ah.toNat)[y.j]=aH g.ins.l[x.m]:=h;obtain⟨f,q,hy2⟩:=y.skip e (heq.trans hd);refine⟨f,_,df.inner rfl rfl fk lP rfl vz rfl,rfl,?_⟩;show _+1 - f.j<_+1 - y.j;omega)
  | (obtain ⟨f, q, hy2⟩ := y.out d hd aa
     refine⟨f,_,df.inner rfl rfl fk lP rfl vz rfl,rfl,?_⟩;show _+1 - f.m<_+1 - x.m;omega)
end Go.Ago
