/-
  Part A27: lemmas, each with its own conditions.
-/
import Derived.Shelf.Sort.Plain
import Derived.Shelf.Slices.CompactI
import Derived.Shelf.Slices.In.SortNone
import Derived.Test.YthaolifcglpkdaaGreatDoorA17
import Derived.Test.YthaolifcglpkdaaGreatDoorA26
set_option maxRecDepth 100000
set_option maxHeartbeats 0
set_option linter.all false
section
namespace Go.Ago
open Go.Proofs List Nat Tryz
attribute [local irreducible] bN bM aZ bK b_ wr bp bL comp DC DP DW DV
attribute [local irreducible] dS bB er iA cx bn aV aX aT aH dm eY jR
theorem mh (ws:List aA)(b:ws.length≤1)(n:Int)(h:0≤n∧n≤64 * (ws.length:Int)):af 39 [fW ws,i64 n] (fun a=>a = .ret (aU (bn ws n.toNat))):=
 UK ⟨ws,aa⟩ n ⟨h.1,h.2,aa⟩
def kT (S:List (List aA))(k:Nat):aA:=(aK S k).headD 0
theorem yu {g:Gr}{S:List (List aA)}(b:ShS g S)(h0:cn g=0){k:Nat}(a:k≤g.ins.l.length):aK S k=[]:=eq_nil_of_length_eq_zero (by rw[eJ b a,h0])
theorem u6 {g:Gr}{S:List (List aA)}(b:ShS g S)(h0:cn g=1){k:Nat}(a:k≤g.ins.l.length):aK S k=[kT S k]:=by
 have:=eJ b a;unfold kT;rcases c:aK S k with _|⟨w,_|⟨_,_⟩⟩<;>simp_all
theorem qy {g:Gr}{S:List (List aA)}(b:ShS g S){k:Nat}(c:k≤g.ins.l.length){x:Int}(d:x=(k:Int)){ws:List aA}(e:aK S k=ws):(S.map fun ws=>[fW ws])[x.toNat]? = some [fW ws]:=by
 have a:k<S.length:=by rw[b.len];omega
 simp_all
attribute [local irreducible] kT
theorem II {g:Gr}{S:List (List aA)}{k:Nat}(h:k<g.ins.l.length)(a:0≤aH g.ins.l[k]):oH g S k=bn (er (aK S (k+1)) (aH g.ins.l[k]).toNat) g.aj.toNat:=by
 unfold oH Ag;grind
theorem IH {g:Gr}{S:List (List aA)}{k:Nat}(h:k<g.ins.l.length)(a:¬0≤aH g.ins.l[k]):oH g S k=bn (aK S (k+1)) g.aj.toNat:=by
 unfold oH Ag;grind
theorem Qd (w:aA):c9 75 [.ak 1 [jZ w]] .nil 0 (fun b H' _=>b = .ret (.az 5 0 1 1)∧H'.get 5=some (bP [w])):=by
 refine zd func75 ?_;refine zg ?_
 repeat' (refine zf ?_<;>refine zg ?_)
 exact⟨rfl,rfl⟩
theorem HH {n:Int}{a b c d:Nat}{ρ:Nat->Nat}(f:a=c)(e:b=d):AV.int .i64 (bL true (bL true n (a:Int)) (b:Int))=(AV.int .i64 (max (max n (c:Int)) (d:Int))).r2 ρ:=by
 subst f;subst e;simp[Co,AV.r2,AV.r1,AV.ra,AV.r0]
theorem W2 (w:aA)(r:Nat):(er [w] r).length≤1:=by rw[sH];simp
theorem W3 {n:Int}{w:aA}{r:Nat}(h:0≤n∧n≤64 * ((1:Nat):Int)):0≤n∧n≤64 * ((er [w] r).length:Int):=by rw[sH];exact h
theorem WR (g:Gr)(hg:cM g)(S:List (List aA))(b:ShS g S)(a:cn g=0):af 36 [g.av,.ak 1 (S.map fun ws=>[fW ws])] (eX (vD g S)):=by
 refine zw func36 ?_;have hil:=g.ins.h;have hfew:=hg.eU;have hregs:=hg.aj;have hge:=mj hg;rw[a] at hge;have hsl:=b.len;have hS0:∀k (h:k<g.ins.l.length),aH g.ins.l[k]<0:=fun k h=>by have:=hg.ga _ (getElem_mem h);omega
 conv=>whnf
 refine DW.aO aC aD [1,2,4,11,12] [] 1000 (fun i:{x:Nat×Int // lW g S x.1 x.2∧x.1≤g.ins.l.length}=>[(13,i64 i.1.1),(5,i64 i.1.2)]) (fun _=>[]) [] (fun i=>g.ins.l.length+1 - i.1.1) (⟨(0,0),lW.nil,zero_le _⟩) ?_
 refine zl fun i=>?_
 have hib:=i.2.2;have hwi:wr .i64 ((i.1.1:Int)+1)=(i.1.1:Int)+1:=aF aa aa;refine zk ?_
 repeat' ((first|refine ay.mk _ (qy b (k:=i.1.1) aa rfl (yu b a aa)) ?_|(refine ay.mk _ (qy b (k:=i.1.1+1) aa (by rw[aF aa aa];omega) (yu b a aa)) ?_)|(refine zb ?_ ?_<;>(intro h)<;>try (exfalso;(exact absurd h (Int.not_le.2 (hS0 _ _)))))|refine ay.mk _ (bI aa) ?_|(refine DC.pure rfl (o0 (g.ins.l[i.1.1]'aa)) ?_;rintro _ rfl)|(refine DC.pure rfl Qe ?_;rintro _ rfl)|(refine zh rfl (mh [] ag g.aj ez) ?_;rintro _ rfl)|(refine DC.pure rfl (mh [] ag g.aj ez) ?_;rintro _ rfl))<;>refine zk ?_)
 all_goals first
  | exact⟨_,rfl,by have:=i.2.1;rw[show i.1.1=g.ins.l.length by omega] at this;exact this⟩
  | (have c : i.1.1 < g.ins.l.length := aa
     have dw:=i.2.1.step;refine⟨⟨(i.1.1+1,_),dw,c⟩,?_,rfl,by(dsimp only;omega)⟩
     conv=>whnf
     repeat' first|exact True.intro|(refine HH ?_ ?_;(rw[length_map,su,yu b a hib]);((rw[length_map,IH c (Int.not_le.2 h),yu b a c])))|rfl|apply And.intro|(refine cw ?_ ?_ ?_<;>(try dsimp only)<;>omega))
theorem WS (g:Gr)(hg:cM g)(S:List (List aA))(c:ShS g S)(a:cn g=1):af 36 [g.av,.ak 1 (S.map fun ws=>[fW ws])] (eX (vD g S)):=by
 refine zw func36 ?_;have hil:=g.ins.h;have hfew:=hg.eU;have d:=hg.aj;have hge:=mj hg;rw[a] at hge;have hsl:=c.len;have hS1:∀k (h:k<g.ins.l.length),aH g.ins.l[k]<64 * ((1:Nat):Int):=fun k h=>by have:=hg.ga _ (getElem_mem h);omega
 have e:0≤g.aj∧g.aj≤64 * ((1:Nat):Int):=⟨d.1,aa⟩
 conv=>whnf
 refine DW.aO aC aD [1,2,4,11,12] [] 1000 (fun i:{x:Nat×Int // lW g S x.1 x.2∧x.1≤g.ins.l.length}=>[(13,i64 i.1.1),(5,i64 i.1.2)]) (fun _=>[]) [] (fun i=>g.ins.l.length+1 - i.1.1) (⟨(0,0),lW.nil,zero_le _⟩) ?_
 refine zl fun i=>?_
 have hib:=i.2.2;have hwi:wr .i64 ((i.1.1:Int)+1)=(i.1.1:Int)+1:=aF aa aa;refine zk ?_
 repeat' ((first|refine ay.mk _ (qy c (k:=i.1.1) aa rfl (u6 c a aa)) ?_|(refine ay.mk _ (qy c (k:=i.1.1+1) aa (by rw[aF aa aa];omega) (u6 c a aa)) ?_)|(refine zp ?_ ?_<;>intro h)|refine ay.mk _ (bI aa) ?_|(refine DC.pure rfl (o0 (g.ins.l[i.1.1]'aa)) ?_;rintro _ rfl)|refine DC.new rfl (Qd (kT S (i.1.1+1))) rfl rfl ?_|(refine DC.ng (uU [(kT S (i.1.1+1))] rfl (aH (g.ins.l[i.1.1]'aa)) ⟨h,hS1 _ _⟩ (Nat.le_refl 1)) rfl rfl rfl cV ?_;rintro _ H' _ ⟨rfl,h0⟩;refine⟨rfl,_,h0,cV,?_⟩)|(refine DC.qa rfl (gu (f:=jZ) (n:=19) (l:=[(kT S (i.1.1+1))]) (fun _=>rfl) rfl rfl rfl) ?_;refine DC.pure rfl (mh [(kT S (i.1.1+1))] (Nat.le_refl 1) g.aj e) ?_;rintro _ rfl)|(refine DC.qa rfl (gu (f:=jZ) (n:=19) (l:=(er [(kT S (i.1.1+1))] (aH (g.ins.l[i.1.1]'aa)).toNat)) (fun _=>rfl) rfl rfl (sH (ws:=[(kT S (i.1.1+1))]) (r:=(aH (g.ins.l[i.1.1]'aa)).toNat)).symm) ?_;refine DC.pure rfl (mh (er [(kT S (i.1.1+1))] (aH (g.ins.l[i.1.1]'aa)).toNat) (W2 _ _) g.aj (W3 e)) ?_;rintro _ rfl)|(refine zh rfl (mh [kT S i.1.1] ag g.aj ez) ?_;rintro _ rfl))<;>refine zk ?_)
 all_goals first
  | exact⟨_,rfl,by have:=i.2.1;rw[show i.1.1=g.ins.l.length by omega] at this;exact this⟩
  | (have b : i.1.1 < g.ins.l.length := aa
     have dw:=i.2.1.step;refine⟨⟨(i.1.1+1,_),dw,b⟩,?_,rfl,by(dsimp only;omega)⟩
     conv=>whnf
     repeat' first|exact True.intro|(refine HH ?_ ?_;(rw[length_map,su,u6 c a hib]);(first|(rw[length_map,IH b (Int.not_le.2 h),u6 c a b])|(rw[length_map,II b h,u6 c a b])))|rfl|apply And.intro|(refine cw ?_ ?_ ?_<;>(try dsimp only)<;>omega))
theorem WT (g:Gr)(a:cM g)(S:List (List aA))(b:ShS g S):af 36 [g.av,.ak 1 (S.map fun ws=>[fW ws])] (eX (vD g S)):=by
 have:=qt a;rcases Nat.lt_or_ge (cn g) 1 with h|h
 . exact WR g a S b aa
 exact WS g a S b aa
end Go.Ago
end
namespace Go.Ago
open Go.Proofs List Nat Tryz
attribute [local irreducible] bN bM aZ bK b_ wr bp bL comp DC DP DW DV
attribute [local irreducible] dS bB er iA cx bn aV aX aT aH dm eY jR iK eh kT
structure iT (g:Gr)(C:List (List aA)):Prop where
 len:C.length=g.aj.toNat
 row:∀ws∈C,ws.length=cn g
def gq (C:List (List aA))(k r:Nat):List (List aA):=C.set k (er (aK C k) r)
theorem u5 {g:Gr}{C:List (List aA)}(h:iT g C){k:Nat}(b:k<g.aj.toNat):(aK C k).length=cn g:=by
 have a:k<C.length:=by rw[h.len];omega
 rw[aK,getD,getElem?_eq_getElem a];exact h.row _ (ag)
theorem iT.put {g:Gr}{C:List (List aA)}(h:iT g C){k r:Nat}(b:k<g.aj.toNat):iT g (gq C k r):=by
 refine⟨by rw[gq,length_set,h.len],fun c a=>?_⟩
 rcases mem_or_eq_of_mem_set a with a|rfl
 . exact h.row _ a
 rw[sH,u5 h b]
theorem J3 {g:Gr}{C:List (List aA)}(h:iT g C){k j r:Nat}(c:k<g.aj.toNat):aK (gq C k r) j=if j=k then er (aK C k) r else aK C j:=by
 have a:k<C.length:=by rw[h.len];omega
 by_cases b:j=k
 . subst b;simp[gq,a]
 . simp[gq,getElem?_set_ne (Ne.symm _),b]
theorem pJ {g:Gr}(d:cM g){C:List (List aA)}(h:iT g C){k j r s:Nat}(a:k<g.aj.toNat)(e:r<g.aj.toNat)(c:bB (aK C j) s=true):bB (aK (gq C k r) j) s=true:=by
 rw[J3 h a]
 by_cases b:j=k
 . subst b
   rw[if_pos rfl,v8 (by rw[u5 h a];grind),c,Bool.or_true]
 grind
theorem EV {g:Gr}(c:cM g){C:List (List aA)}(h:iT g C){k r:Nat}(a:k<g.aj.toNat)(b:r<g.aj.toNat):bB (aK (gq C k r) k) r=true:=by
 rw[J3 h a,if_pos rfl,v8 (by rw[u5 h a];grind)]
 simp
theorem GB {C:List (List aA)}{k j r:Nat}(c:k<C.length):dm (gq C k r) j=if j=k then some (bP (er (aK C k) r)) else dm C j:=by
 rw[nc,nc]
 by_cases a:j=k
 . subst a;rw[if_pos rfl,dif_pos (by simpa[gq] using c)];simp[gq]
 . rw [if_neg a]
   by_cases b:j<C.length
   . simp[gq,getElem_set_ne (Ne.symm a)]
   . rw[dif_neg (by simpa[gq] using b),dif_neg b]
def Nu (g:Gr)(S C:List (List aA))(k r:Nat):Prop:=∀h:k<g.ins.l.length,0≤aH g.ins.l[k]->cQ g.ins.l[k]->(r:Int)<g.aj->bB (aK S (k+1)) r=true->(r:Int)≠aH g.ins.l[k]->bB (aK C (aH g.ins.l[k]).toNat) r=true∧bB (aK C r) (aH g.ins.l[k]).toNat=true
def nZ (g:Gr)(S C:List (List aA))(m:Nat):Prop:=∀k r,k<m->Nu g S C k r
structure tC (g:Gr)(S:List (List aA)) where
 m:Nat
 C:List (List aA)
 hm:m≤g.ins.l.length
 sh:iT g C
 cl:nZ g S C m
structure mL (g:Gr)(S:List (List aA))(m d:Nat)(L:List Int) where
 j:Nat
 C:List (List aA)
 hj:j≤L.length
 sh:iT g C
 cl:nZ g S C m
 dn:∀r∈L.take j,r≠(d:Int)->bB (aK C d) r.toNat=true∧bB (aK C r.toNat) d=true
theorem nZ.put {g:Gr}(b:cM g){S C:List (List aA)}{m:Nat}(c:iT g C)(h:nZ g S C m){k r:Nat}(d:k<g.aj.toNat)(e:r<g.aj.toNat):nZ g S (gq C k r) m:=
 fun q p a l f i o n j=>(h _ _ a _ f i o n j).imp (pJ b c d e) (pJ b c d e)
theorem mL.skip {g:Gr}{S:List (List aA)}{m d:Nat}{L:List Int}(x:mL g S m d L)(b:x.j<L.length)(c:L[x.j]=(d:Int)):∃y:mL g S m d L,y.j=x.j+1∧y.C=x.C:=
 ⟨⟨x.j + 1, x.C, b, x.sh, x.cl, fun r h a => by
   rw[take_succ_eq_append_getElem b] at h;rcases mem_append.1 h with h|h
   . exact x.dn r h a
   grind⟩,rfl,rfl⟩
theorem mL.put {g:Gr}(c:cM g){S:List (List aA)}{m d:Nat}{L:List Int}(x:mL g S m d L)(i:x.j<L.length)(b:d<g.aj.toNat)(k:0≤L[x.j]∧L[x.j]<g.aj) :
 ∃y:mL g S m d L,y.j=x.j+1∧y.C=gq (gq x.C d (L[x.j]).toNat) (L[x.j]).toNat d:=by
 have a:(L[x.j]).toNat<g.aj.toNat:=aa;have e:=x.sh.put (r:=(L[x.j]).toNat) b;refine⟨⟨x.j+1,_,i,e.put a,(x.cl.put c x.sh b a).put c e a b,fun r h f=>?_⟩,rfl,rfl⟩
 rw[take_succ_eq_append_getElem i] at h;rcases mem_append.1 h with h|h
 . exact(x.dn r h f).imp (fun h=>pJ c e a b (pJ c x.sh b a h)) fun h=>pJ c e a b (pJ c x.sh b a h)
 . obtain rfl := mem_singleton.1 h
   exact⟨pJ c e a b (EV c x.sh b a),EV c e a b⟩
theorem tC.skip {g:Gr}{S:List (List aA)}(x:tC g S)(a:x.m<g.ins.l.length)(h:¬(0≤aH g.ins.l[x.m]∧cQ g.ins.l[x.m])):∃y:tC g S,y.m=x.m+1∧y.C=x.C:=
 ⟨⟨x.m + 1, x.C, a, x.sh, fun k r e f d c => by
   rcases Nat.lt_or_ge k _ with b|b
   . exact x.cl k r b _ d c
   grind⟩,rfl,rfl⟩
theorem mL.out {g:Gr}{S:List (List aA)}{m d:Nat}(a:m<g.ins.l.length)(e:aH g.ins.l[m]=(d:Int))(x:mL g S m d (bn (aK S (m+1)) g.aj.toNat))(i:(bn (aK S (m+1)) g.aj.toNat).length≤x.j):∃y:tC g S,y.m=m+1∧y.C=x.C:=
 ⟨⟨m + 1, x.C, a, x.sh, fun k r t q p n o f c => by
   rcases Nat.lt_or_ge k m with h|h
   . exact x.cl k r h q p n o f c
   . obtain rfl : k = m := aa
     have s:(r:Int)∈(bn (aK S (k+1)) g.aj.toNat).take x.j:=by
      rw[take_of_length_le i];exact ny.2 ⟨r,rfl,aa,f⟩
     have:=x.dn r s (by rw[<-e];exact c)
     rw[e]
     simpa using this⟩,rfl,rfl⟩
theorem XJ {C:List (List aA)}{d r j:Nat}{o:an}{ρ:Nat->Nat}{l:Nat}{T:ai}(g:d<C.length)(k:r<C.length)(c:r≠d)(i:j<bU)(h:dm (gq (gq C d r) r d) j=some o) :
 dN (aV fA j) (fun x=>x=o.cp ρ∧o.lt l) (.put (aV fA r) (some (bP (er (aK C r) d))) (.put (aV fA d) (some (bP (er (aK C d) r))) (.fq fA bU (dm C) T))):=by
 have b:r<(gq C d r).length:=by simpa[gq] using k
 have e:aK (gq C d r) r=aK C r:=by simp[aK,gq,getD,getElem?_set_ne (Ne.symm c)]
 rw[GB b,e,GB g] at h
 by_cases f:j=r
 . subst f;rw[if_pos rfl] at h;cases h;exact Hh ⟨mw,jP⟩
 . rw [if_neg f] at h
   refine Hg f ?_
   by_cases a:j=d
   . subst a;rw[if_pos rfl] at h;cases h;exact Hh ⟨mw,jP⟩
   . rw [if_neg a] at h
     exact Hg a (xa i h (wR h))
theorem ns {ws:List aA}{n:Int}{r:Int}(h:r∈bn ws n.toNat):0≤r∧r<n:=by
 obtain⟨k,rfl,a,_⟩:=ny.1 h;omega
theorem J6 {n a:Nat}{x:Int}(b:0≤x∧x<(n:Int)):(eh n a)[0+x.toNat]? = some [AV.az (aV fA x.toNat) 0 a 1]:=my aa aa
theorem Yz {g:Gr}(i:cM g){C:List (List aA)}(d:iT g C){T:ai}:snap (.fq fA bU (dm C) (.put 7 (some (.arr 1 (eh g.aj.toNat (cn g)))) T)) 20 (.az 7 0 g.aj.toNat 1)=some (.ak 1 (C.map fun ws=>[fW ws])):=by
 have t:bU=1048576:=rfl;have h:=i.aj;have q:(Tr.fq fA bU (dm C) (.put 7 _ T)).get 7=some (.arr 1 (eh g.aj.toNat (cn g))):=rfl;have b:(eh g.aj.toNat (cn g)).length=g.aj.toNat:=by with_unfolding_all simp[eh]
 have o:List.take g.aj.toNat (List.drop 0 (eh g.aj.toNat (cn g)))=eh g.aj.toNat (cn g):=by grind
 have p:aM (aM (snap (.fq fA bU (dm C) (.put 7 (some (.arr 1 (eh g.aj.toNat (cn g)))) T)) 19)) (eh g.aj.toNat (cn g))=some (C.map fun ws=>[fW ws]):=by
  have h:C.map (fun ws=>[fW ws])=(List.range g.aj.toNat).map fun j=>[fW (aK C j)]:=by
   refine ext_getElem (by simp[d.len]) fun j s r=>?_
   grind
  rw[h,show eh g.aj.toNat (cn g)=(List.range g.aj.toNat).map _ by with_unfolding_all rfl]
  refine Ch fun j c=>?_
  have c:=mem_range.1 c;have a:(Tr.fq fA bU (dm C) (.put 7 (some (.arr 1 (eh g.aj.toNat (cn g)))) T)).get (aV fA j)=some (bP (aK C j)):=(kb aa).trans (ju (by rw[d.len];omega))
  rw[show eh g.aj.toNat (cn g)=(List.range g.aj.toNat).map _ by with_unfolding_all rfl] at a
  have:=gu (k:=aV fA j) (n:=18) (f:=jZ) (l:=aK C j) (m:=cn g) (sz:=1) (fun _=>rfl) a rfl (u5 d c).symm
  exact aJ this rfl
 exact qS (n:=19) q (by rw[b];omega) (by rw[o];exact p)
theorem JI {g:Gr}(b:cM g){C:List (List aA)}(c:iT g C){k:Nat}{r:Int}(d:k<g.aj.toNat)(e:0≤r∧r<g.aj):c9 77 [.az 0 0 (cn g) 1,i64 r] (.put 0 (some (bP (aK C k))) .nil) 1 (fun a H' _=>a = .ret (.ao [])∧H'.get 0=some (bP (er (aK C k) r.toNat))):=
 uU _ (u5 c d) r ⟨e.1,by grind⟩ (qt b)
theorem xq {g:Gr}{C:List (List aA)}(b:iT g C){k:Nat}(a:k<g.aj.toNat):k<C.length:=by rw[b.len];exact a
theorem u4 {ws:List aA}{n r:Int}(h:r∈bn ws n.toNat):r.toNat<n.toNat:=by have:=ns h;omega
theorem yr {g:Gr}(a:cM g){k:Nat}(b:k<g.aj.toNat):k<bU:=by have:=a.aj;grind
theorem toNat_ne {a b:Int}(d:0≤a)(c:0≤b)(h:¬a=b):a.toNat≠b.toNat:=aa
theorem Xo {g:Gr}{k:Nat}(h:k=g.aj.toNat):iT g (kh g k):=⟨by simp[h],fun b a=>by grind⟩
theorem X9 {g:Gr}(a:cM g){k:Nat}(h:k<g.ins.l.length)(h0:0≤aH g.ins.l[k]):0≤aH g.ins.l[k]∧aH g.ins.l[k]<(g.aj.toNat:Int):=by
 have:=a.ga _ (getElem_mem h);omega
theorem Xl {n a k m:Nat}{l:List (Nat×Nat)}(c:ble (fA+bU) m=true)(d:n≤1001)(b:n≤k):an.arr 1 (iK n a k)=(an.arr 1 (eh n a)).cp (eu m fA (aV fA) l):=by
 rw[Ka b];exact mu c d
theorem Ha {A i n:Nat}{v:Option an}{t:ai}{o:Option an}(hi:i<bU)(h:(blt n A || ble (A+bU) n)=true)(e:t.get n=o):(Tr.put (aV A i) v t).get n=o:=by
 have:beq n (aV A i)=false:=by
  cases e:beq n _ with
  | false=>rfl
  | true =>
    have:=eq_of_beq_eq_true e;rw[Bool.or_eq_true] at h;rcases h with h|h<;>have h:=le_of_ble_eq_true h<;>unfold aV at *<;>omega
 rw[Tr.get,this];exact e
theorem H_ {g:Gr}(a:0≤g.aj∧g.aj≤64){ws:List aA}{r:Int}(h:r∈bn ws g.aj.toNat):0≤r∧r<(g.aj.toNat:Int):=by have:=ns h;omega
theorem s8 {x:Int}{n:Nat}(h:0≤x∧x<(n:Int)):x.toNat<n:=aa
theorem S9 {x:Int}{n:Nat}(h:0≤x∧x<(n:Int)):bp x n=true:=by rw[hZ];exact h
theorem X_ {g:Gr}(a:cM g){k:Nat}(h:k<g.ins.l.length)(h0:0≤aH g.ins.l[k]∧aH g.ins.l[k]<(g.aj.toNat:Int)):0≤aH g.ins.l[k]∧aH g.ins.l[k]<g.aj:=by
 grind
theorem P0 (g:Gr)(c:cM g):af 51 [g.av] (fun ae=>∃C S,ae = .ret (.ak 1 (C.map fun ws=>[fW ws]))∧iT g C∧fy g S∧nZ g S C g.ins.l.length):=by
 refine zw func51 ?_;have hil:=g.ins.h;have hF:bU=1048576:=rfl;have hfew:=c.eU;have b:=c.aj;have hnw:=qt c;have hge:=mj c;refine zg ?_
 repeat' ((first|refine Rq.mk (sr (l':=g.aj) rfl rfl aa ab rfl) ?_|(refine DC.pure rfl (Ie g c) ?_;rintro _ ⟨S,rfl,hS⟩))<;>refine zg ?_)
 have hsl:=hS.len;refine DW.jO aC aD [1,2,3,4,17] [7] 2000000 fA (fun i:{i:Nat // i≤g.aj.toNat}=>[(18,i64 i.1)]) (fun i=>[(7,.arr 1 (iK g.aj.toNat (cn g) i.1))]) (fun i=>dm (kh g i.1)) [] (fun i=>g.aj.toNat+1 - i.1) (⟨0,zero_le _⟩) ?_
 conv=>whnf
 refine⟨⟨_,dh.grow (k:=0) (NEW:=2000022) rfl rfl rfl rfl ?_ ?_ rfl (fun j o _ _ h=>(yl h).elim) (fun o h=>(yl h).elim) rfl⟩,fun i=>?_⟩
 . (exact zc)
 . (repeat' (first|exact jH|(refine jG (x:=?_) ?_ ?_ ?_ ?_ ?_ ?_;rotate_left;exact rfl;exact rfl;exact rfl;(first|(refine J8 ?_;rfl)|rfl);(first|(refine xv ?_ ?_<;>first|rfl|omega)|rfl))))
 refine zk ?_
 repeat' ((first|(refine zp ?_ ?_<;>intro h)|refine DC.new rfl (Cq g.aj b) Di rfl ?_|refine cb (J_ aa) ?_)<;>refine zk ?_)
 . have hi : i.1 < g.aj.toNat := aa
   refine⟨⟨i.1+1,hi⟩,_,dh.grow (k:=i.1) (NEW:=2000022) rfl rfl rfl rfl ?_ ?_ rfl ?_ ?_ rfl,rfl,?_⟩
   . (exact zc)
   . (repeat' (first|exact jH|(refine jG (x:=?_) ?_ ?_ ?_ ?_ ?_ ?_;rotate_left;exact rfl;exact rfl;exact rfl;(first|(refine JQ ?_ ?_ ?_ ?_;exact rfl;omega;(show i.1<_;omega);simp)|rfl);(first|(refine xv ?_ ?_<;>first|rfl|omega)|rfl))))
   . intro j o hj hjk hg0
     have n:dm (kh g (i.1+1)) j=some o:=hg0;rw[JU hjk] at n
     (repeat' first|exact xa hj n (wR n)|(refine BJ hj ?_ ?_;(rfl))|(refine BK ?_ ?_;(rfl)))
   . intro o ho
     obtain rfl:=JT ho;exact rV (o:=bP (gb (cn g))) rfl ⟨mw,jP⟩
   . dsimp only;omega
 have p:g.aj.toNat≤i.1:=aa;refine DW.jO aC aD [1,2,3,4,29,30] [7] 10000 fA (fun x:tC g S=>[(31,i64 x.m)]) (fun x=>[(7,.arr 1 (eh g.aj.toNat (cn g)))]) (fun x=>dm x.C) [] (fun x=>g.ins.l.length+1 - x.m) (⟨0,kh g i.1,zero_le _,Xo (by have:=i.2;omega),fun k r h=>absurd h (not_lt_zero _)⟩) ?_
 conv=>whnf
 refine⟨⟨_,dh.inner rfl rfl fo (by(repeat' (first|exact jH|(refine jG (x:=?_) ?_ ?_ ?_ ?_ ?_ ?_;rotate_left;exact rfl;exact rfl;exact rfl;(first|(refine Xl ?_ ?_ p<;>first|rfl|omega)|rfl);(first|(refine lH ?_ ?_<;>first|rfl|omega)|rfl))))) rfl iq rfl⟩,fun x=>?_⟩
 have hxm:=x.hm;have hwx:wr .i64 ((x.m:Int)+1)=(x.m:Int)+1:=aF aa aa;refine zk ?_
 repeat' ((first|(refine ay.mk _ (qy hS.toShS (k:=x.m+1) aa (by rw[aF aa aa];omega) rfl) ?_)|(refine zp ?_ ?_<;>intro h)|refine ay.mk _ (bI aa) ?_|(refine DC.pure rfl (o0 (g.ins.l[x.m]'aa)) ?_;rintro _ rfl)|(refine DC.pure rfl (wQ (g.ins.l[x.m]'aa)) ?_;rintro _ (⟨rfl,hf⟩|⟨rfl,hf⟩))|(refine zh rfl (mh (aK S (x.m+1)) (by rw[eJ hS.toShS aa];exact hnw) g.aj (by rw[eJ hS.toShS aa];omega)) ?_;rintro _ rfl))<;>refine zk ?_)
 all_goals first
  | (generalize hg2 : snap _ 20 _ = rr
     obtain rfl:=hg2.symm.trans (Yz c x.sh)
     conv=>whnf
     exact⟨x.C,S,rfl,x.sh,hS,by have:=x.cl;rw[show x.m=g.ins.l.length by omega] at this;exact this⟩)
  | (have d : x.m < g.ins.l.length := aa
     obtain⟨y,q,hy2⟩:=x.skip d (by first|exact fun hh=>absurd hh.1 (Int.not_le.2 bA)|exact fun hh=>absurd hh.2 bA)
     refine⟨y,_,dh.inner rfl rfl fo lP rfl vt rfl,rfl,?_⟩;show g.ins.l.length+1 - y.m<g.ins.l.length+1 - x.m;omega)
  | skip
 have d:x.m<g.ins.l.length:=aa;have a:=X9 c d aa;have hd:aH g.ins.l[x.m]=((aH g.ins.l[x.m]).toNat:Int):=aa;refine DW.jO aC aD [1,2,3,4,6,7,8,29,30,31,32,33,34,35,36,37,38,39,40,41,42,43,44,45,46,47,48,49,50,51,52,53] [] 10000 fA (fun y:mL g S x.m (aH (g.ins.l[x.m]'aa)).toNat (bn (aK S (x.m+1)) g.aj.toNat)=>[(54,i64 y.j)]) (fun y=>[]) (fun y=>dm y.C) [] (fun y=>(bn (aK S (x.m+1)) g.aj.toNat).length+1 - y.j) (⟨0,x.C,zero_le _,x.sh,x.cl,ag⟩) ?_
 conv=>whnf
 refine⟨⟨_,dh.inner rfl rfl fo lP rfl iq rfl⟩,fun y=>?_⟩
 have hyj:=y.hj;have hll:=@sf (aK S (x.m+1)) g.aj.toNat;refine zk ?_
 repeat' ((first|(refine UO (A:=fA) ?_ ?_;exact rfl)|refine Rq.mk (S9 (H_ b (getElem_mem _))) ?_|(refine zp ?_ ?_<;>intro h)|refine ay.mk _ (bI aa) ?_|refine cb (J6 a) ?_|refine cb (J6 (H_ b (getElem_mem _))) ?_|(refine DC.ng (k:=aV fA (aH (g.ins.l[x.m]'aa)).toNat) (JI c y.sh (s8 a) (ns (getElem_mem _))) rfl rfl ((kb (yr c (s8 a))).trans (ju (xq y.sh (s8 a)))) cV ?_;rintro _ H' _ ⟨rfl,h0⟩;refine⟨rfl,_,h0,cV,?_⟩)|(refine DC.ng (k:=aV fA ((bn (aK S (x.m+1)) g.aj.toNat)[y.j]'aa).toNat) (JI c y.sh (u4 (getElem_mem _)) (X_ c d a)) rfl rfl (G8 (toNat_ne (ns (getElem_mem _)).1 a.1 h) ((kb (yr c (u4 (getElem_mem _)))).trans (ju (xq y.sh (u4 (getElem_mem _)))))) cV ?_;rintro _ H' _ ⟨rfl,h0⟩;refine⟨rfl,_,h0,cV,?_⟩))<;>refine zk ?_)
 all_goals first
  | (have e : y.j < (bn (aK S (x.m + 1)) g.aj.toNat).length := aa
     have cF:¬(bn (aK S (x.m+1)) g.aj.toNat)[y.j]=aH g.ins.l[x.m]:=h;have hrr:=ns (getElem_mem e);obtain⟨f,q,hy2⟩:=y.put c e (s8 a) hrr;refine⟨f,_,dh.inner rfl rfl fo (by(repeat' (first|exact jH|(refine jG (x:=?_) ?_ ?_ ?_ ?_ ?_ ?_;rotate_left;exact rfl;exact rfl;refine Ha ?_ ?_ (Ha ?_ ?_ ?_);exact yr c (u4 (getElem_mem e));exact rfl;exact yr c (s8 a);exact rfl;exact rfl;(first|(refine mu ?_ ?_<;>first|rfl|omega)|rfl);(first|(refine lH ?_ ?_<;>first|rfl|omega)|rfl))))) rfl (by(intro j o hj hg0;rw[hy2] at hg0;exact XJ (xq y.sh (s8 a)) (xq y.sh (u4 (getElem_mem _))) (toNat_ne hrr.1 a.1 cF) hj hg0)) rfl,rfl,?_⟩
     show _+1 - f.j<_+1 - y.j;omega)
  | (have e : y.j < (bn (aK S (x.m + 1)) g.aj.toNat).length := aa
     have heq:(bn (aK S (x.m+1)) g.aj.toNat)[y.j]=aH g.ins.l[x.m]:=h;obtain⟨f,q,hy2⟩:=y.skip e (heq.trans hd);refine⟨f,_,dh.inner rfl rfl fo lP rfl vt rfl,rfl,?_⟩;show _+1 - f.j<_+1 - y.j;omega)
  | (obtain ⟨f, q, hy2⟩ := y.out d hd aa
     refine⟨f,_,dh.inner rfl rfl fo lP rfl vt rfl,rfl,?_⟩;show _+1 - f.m<_+1 - x.m;omega)
end Go.Ago
section
namespace Go.Ago
open Go.Proofs Go.RowKit Go.Sort List Nat Tryz
section
variable {G:eZ} {c:Ctx} {w:World}
theorem C7 {zs:List Int}(x:aN G c w (.put 0 (some (.arr 1 (zs.map ic))) .nil))(e:zs≠[]){vs:List Value}(m:aQ c w [.az 0 0 zs.length 1] vs) :
 ∃B cap arr t,vs=[.slice (some ⟨B.b,B.s,none⟩) zs.length cap]∧c.f 0=some B∧B.sz=1∧zs.length≤cap∧cap≤B.n∧w.heap[B.b]? = some (.cells arr t (0,0))∧B.s+B.n≤arr.size∧(∀j,j<zs.length->arr[B.s+j]? = some (.int .i64 (zs[j]!)))∧cap≤9223372036854775807:=by
 obtain⟨v,M,rfl,h,A⟩:=m.dT;obtain rfl:=A.fY;obtain⟨B,g,F,arr,t,o,p,H,K,u⟩:=x.obj 0 _ rfl;have d:0<zs.length:=length_pos_iff.2 e
 generalize L:zs.length=z at h d
 cases h with
 | az i q r y D =>
   rw[g] at i;cases i;obtain⟨rfl,I⟩:=y aa;refine⟨B,_,arr,t,?_,g,q,r,aa,o,p,fun j J=>?_,D⟩
   . simp
   . have a : j < zs.length := aa
     obtain⟨_,E⟩:=u j [i64 (zs[j])] (by simp[a,ic])
     obtain⟨v,k,l⟩:=E 0 _ rfl;cases l;rw[show B.s+(j * 1+0)=B.s+j by omega] at k
     rw[k,getElem!_pos zs j a]
theorem C6 {zs:List Int}{B:fp}{arr:Array Value}{t:TypeId}(h:w.heap[B.b]? = some (.cells arr t (0,0)))(d:∀j,j<zs.length->arr[B.s+j]? = some (.int .i64 (zs[j]!))):Holds (Value.int .i64) w B.b B.s zs.toArray:=by
 intro j a;refine⟨?_,?_⟩
 . unfold World.cell?
   simp_all
 . unfold World.frozen?
   simp[h]
theorem C5 {zs d:List Int}{B:fp}{arr:Array Value}{t:TypeId}{w':World}{n:Nat}{os:Array Obj}(A:aN G c w (.put 0 (some (.arr 1 (zs.map ic))) .nil))(E:c.f 0=some B)(J:B.sz=1)(h:w.heap[B.b]? = some (.cells arr t (0,0)))(Z:B.s+B.n≤arr.size)(S:d.length≤B.n)
 (r:w'=grow (putRow (Value.int .i64) (Sort.ahead w n) B.b B.s d.toArray) os) :
 ExtM 1 c w (.put 0 (some (.arr 1 (zs.map ic))) .nil) c w' (.put 0 (some (.arr 1 (d.map ic))) .nil)∧aN G c w' (.put 0 (some (.arr 1 (d.map ic))) .nil):=by
 have H:=A.bX 0 B E;have q:∀{p:List (List AV)} j F,(Tr.put 0 (some (an.arr 1 p)) Tr.nil:ai).get j=some F->j=0∧F = .arr 1 p:=by
  intro p j F e;rw[Tr.get] at e;cases b:beq j 0 with
  | true=>rw[b] at e;exact⟨eq_of_beq_eq_true b,by cases e;rfl⟩
  | false=>rw[b] at e;cases e
 have a:w'.heap=(w.heap.modify B.b (onCells (putCells (Value.int .i64) B.s d.toArray)))++os:=by rw[r];rfl
 have l:w.heap.size≤w'.heap.size:=by rw[a];simp
 have v:∀b,b<w.heap.size->b≠B.b->w'.heap[b]? = w.heap[b]?:=fun b m I=>by
  rw[a,Array.getElem?_append_left (by simpa using m),Array.getElem?_modify,if_neg (Ne.symm I)]
 have y:Own c (.put 0 (some (.arr 1 (zs.map ic))) .nil) B.b:=⟨0,_,B,rfl,E,rfl⟩;have L:w'.heap[B.b]? = some (.cells (putCells (Value.int .i64) B.s d.toArray arr) t (0,0)):=by
  rw[a,Array.getElem?_append_left (by simpa using H),Array.getElem?_modify,if_pos rfl,h];rfl
 have u:¬c.au B.b:=fun C=>A.kO C y
 refine⟨⟨fun _ _=>rfl,fun _ m=>m,by rw[r];rfl,by rw[r];rfl,by rw[r];rfl,l,fun b m M=>v b m fun e=>M (by rw[e];exact y),fun b m => .inl m,fun b m=>?_⟩,
  ⟨fun b m=>Nat.lt_of_lt_of_le (A.bH b m) l,fun k B' e=>Nat.lt_of_lt_of_le (A.bX k B' e) l,fun k o e=>?_,fun k Y o o' R B2 e T _ _ _=>by rw[(q k o e).1,(q Y o' T).1],fun g U e=>?_⟩⟩
 . obtain ⟨k, o, R, V, X, rfl⟩ := m
   obtain⟨rfl,_⟩:=q k o V;exact .inl ⟨0,_,R,rfl,X,rfl⟩
 . obtain ⟨rfl, rfl⟩ := q k o e
   refine⟨B,E,u,_,t,L,by simpa[putCells] using Z,J,by simpa using S,fun i e O=>?_⟩
   have C:i<d.length:=by
    have:=(List.getElem?_eq_some_iff.1 O).1
    simpa using this
   have K:e=ic d[i]:=by simpa[C] using O.symm
   subst K;refine⟨rfl,fun j x P=>?_⟩
   have hj:j=0:=by
    have:=(List.getElem?_eq_some_iff.1 P).1;simp[ic] at this;exact this
   subst hj;have N:x=i64 d[i]:=by simpa[ic] using P.symm
   subst N;refine⟨.int .i64 d[i],?_,.int _ _⟩;have D:B.s+i<arr.size:=aa;simp only[putCells,Array.getElem?_mapIdx];rw[show B.s+(i * 1+0)=B.s+i by omega,Array.getElem?_eq_getElem D,Option.map_some,if_pos ⟨aa,by simp;omega⟩,show B.s+i - B.s=i by omega]
   simp[getElem!_pos,C]
 . refine (A.bR g U e).mono (.refl c) fun b m => v b (A.bH b m) fun e => ?_
   subst e;exact u m
end
theorem Cj {zs:List Int}{x:Int}:x∈Lib.compact zs↔x∈zs:=by
 unfold Lib.compact Lib.compactUpTo;simp only[mem_map,mem_filter,mem_range]
 constructor
 . rintro ⟨j, ⟨c, _⟩, rfl⟩
   rw[getElem!_pos _ j (by simpa using c)]
   simp
 . intro i
   obtain⟨j,c,rfl⟩:=mem_iff_getElem.1 i;have e:∀(j:Nat) (c:j<zs.length),∃a,(a<zs.length∧Lib.keeps zs.toArray a=true)∧zs.toArray[a]! = zs[j]:=by
    intro j
    induction j with
    | zero=>intro c;exact⟨0,⟨c,by simp[Lib.keeps]⟩,by rw[getElem!_pos _ 0 (by simpa using c)];simp⟩
    | succ j k =>
      intro c
      by_cases h:Lib.keeps zs.toArray (j+1)=true
      . exact⟨j+1,⟨c,h⟩,by rw[getElem!_pos _ (j+1) (by simpa using c)];simp⟩
      . obtain ⟨a, l, m⟩ := k aa
        refine⟨a,l,m.trans ?_⟩;simp only[Lib.keeps,decide_eq_true_eq,not_or,Classical.not_not] at h
        grind
   exact e j c
theorem wz {zs:List Int}:(Lib.compact zs).length≤zs.length:=by
 unfold Lib.compact Lib.compactUpTo
 grind
end Go.Ago
namespace Go.Proofs
open List Nat
def Tryz.Uw:Go.Shelf.Ren:=⟨fun|189=>117|125=>172|257=>171|128=>217|129=>218|294=>209|295=>210|296=>211|297=>212|298=>213|299=>214|216=>123|300=>215|301=>216|328=>254|329=>255|330=>256|331=>257|332=>258|215=>175|343=>298|n=>n,fun|28=>26|3=>3|46=>169|0=>0|51=>265|53=>128|4=>4|183=>259|182=>258|131=>137|5=>5|9=>9|218=>300|222=>304|228=>337|229=>338|n=>n,fun|n=>n⟩
theorem Tryz.H0:Go.Proofs.Lays.n189 prog Tryz.Uw:={
 mixed:=by kernel_rfl
 f125:=func172.trans (congrArg some (by kernel_rfl))
 f128:=func217.trans (congrArg some (by kernel_rfl))
 f129:=func218.trans (congrArg some (by kernel_rfl))
 f189:=func117.trans (congrArg some (by kernel_rfl))
 f215:=func175.trans (congrArg some (by kernel_rfl))
 f216:=func123.trans (congrArg some (by kernel_rfl))
 f257:=func171.trans (congrArg some (by kernel_rfl))
 f294:=func209.trans (congrArg some (by kernel_rfl))
 f295:=func210.trans (congrArg some (by kernel_rfl))
 f296:=func211.trans (congrArg some (by kernel_rfl))
 f297:=func212.trans (congrArg some (by kernel_rfl))
 f298:=func213.trans (congrArg some (by kernel_rfl))
 f299:=func214.trans (congrArg some (by kernel_rfl))
 f300:=func215.trans (congrArg some (by kernel_rfl))
 f301:=func216.trans (congrArg some (by kernel_rfl))
 f328:=func254.trans (congrArg some (by kernel_rfl))
 f329:=func255.trans (congrArg some (by kernel_rfl))
 f330:=func256.trans (congrArg some (by kernel_rfl))
 f331:=func257.trans (congrArg some (by kernel_rfl))
 f332:=func258.trans (congrArg some (by kernel_rfl))
 f343:=func298.trans (congrArg some (by kernel_rfl))
 t0:=underlying0
 a0:=isAgg0
 z0:=sizeOf0
 v0:=zeroValue0
 t3:=underlying3
 a3:=isAgg3
 z3:=sizeOf3
 v3:=zeroValue3
 t4:=underlying4
 a4:=isAgg4
 z4:=sizeOf4
 v4:=zeroValue4
 t5:=underlying5
 a5:=isAgg5
 z5:=sizeOf5
 v5:=zeroValue5
 t9:=underlying9
 a9:=isAgg9
 z9:=sizeOf9
 v9:=zeroValue9
 t28:=underlying26
 a28:=isAgg26
 z28:=sizeOf26
 v28:=zeroValue26
 t46:=underlying169
 a46:=isAgg169
 z46:=sizeOf169
 v46:=zeroValue169
 t51:=underlying265
 a51:=isAgg265
 z51:=sizeOf265
 v51:=zeroValue265
 t53:=underlying128
 a53:=isAgg128
 z53:=sizeOf128
 v53:=zeroValue128
 t131:=underlying137
 a131:=isAgg137
 z131:=sizeOf137
 v131:=zeroValue137
 t182:=underlying258
 a182:=isAgg258
 z182:=sizeOf258
 v182:=zeroValue258
 t183:=underlying259
 a183:=isAgg259
 z183:=sizeOf259
 v183:=zeroValue259
 t218:=underlying300
 a218:=isAgg300
 z218:=sizeOf300
 v218:=zeroValue300
 t222:=underlying304
 a222:=isAgg304
 z222:=sizeOf304
 v222:=zeroValue304
 t228:=underlying337
 a228:=isAgg337
 z228:=sizeOf337
 v228:=zeroValue337
 t229:=underlying338
 a229:=isAgg338
 z229:=sizeOf338
 v229:=zeroValue338 }
def Tryz.Ux:Go.Shelf.Ren:=⟨fun|20=>118|n=>n,fun|22=>26|3=>3|4=>4|0=>0|n=>n,fun|n=>n⟩
theorem Tryz.H3:Go.Proofs.Lays2.n20 prog Tryz.Ux:={
 mixed:=by kernel_rfl
 f20:=func118.trans (congrArg some (by kernel_rfl))
 t0:=underlying0
 a0:=isAgg0
 z0:=sizeOf0
 v0:=zeroValue0
 t3:=underlying3
 a3:=isAgg3
 z3:=sizeOf3
 v3:=zeroValue3
 t4:=underlying4
 a4:=isAgg4
 z4:=sizeOf4
 v4:=zeroValue4
 t22:=underlying26
 a22:=isAgg26
 z22:=sizeOf26
 v22:=zeroValue26
 i3:=by kernel_rfl }
end Go.Proofs
namespace Go.Ago
open Go.Proofs Go.RowKit Go.Sort List Nat Tryz
def iM (zs:List Int):List Int:=zs.mergeSort fun x y=>decide (x≤y)
theorem Cl {zs:List Int}{x:Int}:x∈iM zs↔x∈zs:=mem_mergeSort
theorem o4 {zs:List Int}:(iM zs).length=zs.length:=length_mergeSort _
theorem YQ (zs:List Int)(j:zs≠[])(p:zs.length<4611686018427387904):c9 117 [.az 0 0 zs.length 1] (.put 0 (some (.arr 1 (zs.map ic))) .nil) 1 (fun v H' n=>v = .ret (.ao [])∧n=1∧H' = .put 0 (some (.arr 1 ((iM zs).map ic))) .nil):=by
 refine⟨.ret (.ao []),_,1,⟨⟨_,func117,rfl,ab⟩,fun c w F g r z=>?_⟩,rfl,rfl,rfl⟩
 obtain⟨B,i,q,t,rfl,o,f,m,x,h,y,k,A⟩:=C7 g j z;refine(Any.slices_Sort_int Tryz.H0 B.b B.s i zs w (C6 h k) (g.bX 0 B o) p).mono ?_
 rintro e E ⟨rfl,n,G,l⟩
 obtain⟨C,u⟩:=C5 (d:=iM zs) g o f h y (by rw[o4];omega) l
 exact⟨c,_,1,.ret _,C,u,Nat.le_refl _,r,Rel.ao (cs:=[]) (vs:=[]) rfl ag,rfl,rfl,rfl⟩
theorem Ql (zs:List Int)(k:zs≠[])(I:zs.length<4611686018427387904):c9 118 [.az 0 0 zs.length 1] (.put 0 (some (.arr 1 (zs.map ic))) .nil) 1
 (fun x H' n=>x = .ret (.az 0 0 (Lib.compact zs).length 1)∧n=1∧H' = .put 0 (some (.arr 1 ((Lib.compact zs++replicate (zs.length - (Lib.compact zs).length) 0).map ic))) .nil):=by
 refine⟨_,_,1,⟨⟨_,func118,rfl,ab⟩,fun c w H p E A=>?_⟩,rfl,rfl,rfl⟩
 obtain⟨B,i,C,t,rfl,q,g,j,y,h,u,l,m⟩:=C7 p k A;have D:=@wz zs;refine(Any.slices_Compact_int Tryz.H3 B.b B.s i zs w (C6 h l) aa j).mono ?_
 rintro e r ⟨rfl,n,o⟩
 obtain⟨G,F⟩:=C5 (d:=Lib.compact zs++replicate (zs.length - (Lib.compact zs).length) 0) (os:=#[]) (n:=n) (w':=r) p q g h u ez (by rw[grow_empty];exact o)
 have v:Rel c r (.az 0 0 (Lib.compact zs).length 1) (.slice (some ⟨B.b,B.s,none⟩) (Lib.compact zs).length i):=Rel.az q g aa (fun _=>⟨ag,aa⟩) m
 exact⟨c,_,1,.ret (.az 0 0 (Lib.compact zs).length 1),G,F,Nat.le_refl _,E,v,rfl,rfl,rfl⟩
theorem K8 {n:Nat}(zs:List Int)(c:n=zs.length)(a:zs≠[])(d:zs.length<4611686018427387904):c9 117 [.az 0 0 n 1] (.put 0 (some (.arr 1 (zs.map ic))) .nil) 1 (fun b H' _=>b = .ret (.ao [])∧H'.get 0=some (.arr 1 ((iM zs).map ic))):=by
 subst c;refine(YQ _ a d).mono ?_
 rintro _ _ _ ⟨rfl,_,rfl⟩;exact⟨rfl,rfl⟩
theorem FT {n:Nat}(zs:List Int)(c:n=zs.length)(b:zs≠[])(d:zs.length<4611686018427387904):c9 118 [.az 0 0 n 1] (.put 0 (some (.arr 1 (zs.map ic))) .nil) 1
 (fun e H' _=>e = .ret (.az 0 0 (Lib.compact zs).length 1)∧H'.get 0=some (.arr 1 ((Lib.compact zs++replicate (zs.length - (Lib.compact zs).length) 0).map ic))):=by
 subst c;refine(Ql _ b d).mono ?_
 rintro _ _ _ ⟨rfl,_,rfl⟩;exact⟨rfl,rfl⟩
theorem K5:af 117 [.ah] (fun f=>f = .ret (.ao [])):=by
 refine⟨.ret _,PC.qw ⟨_,func117,rfl,ab⟩ fun c w i j b=>?_,rfl⟩
 obtain⟨v,l,rfl,g,d⟩:=b.dT;obtain rfl:=d.fY;cases g;refine(Any.slices_Sort_int_none Tryz.H0 none 0 w).mono ?_
 rintro e k ⟨rfl,rfl⟩
 exact⟨rfl,.ret _,Rel.ao (cs:=[]) (vs:=[]) rfl ag,rfl⟩
theorem FQ:af 118 [.ah] (fun f=>f = .ret .ah):=by
 refine⟨.ret .ah,PC.qw ⟨_,func118,rfl,ab⟩ fun c w i j b=>?_,rfl⟩
 obtain⟨v,l,rfl,g,d⟩:=b.dT;obtain rfl:=d.fY;cases g;refine(Any.slices_Compact_int_empty Tryz.H3 none 0 w).mono ?_
 rintro e k ⟨rfl,rfl⟩
 exact⟨rfl,.ret .ah,.ah,rfl⟩
theorem kI {l:List Int}:an.eF (.arr 1 (l.map ic)):=by
 simp[an.eF];intro x _;rfl
end Go.Ago
end
