/-
  Part A26: lemmas, each with its own conditions.
-/
import Derived.Test.YthaolifcglpkdaaGreatDoorA25
set_option maxRecDepth 100000
set_option maxHeartbeats 0
set_option linter.all false
section
namespace Go.Ago
open Go.Proofs List Nat Tryz
attribute [local irreducible] bN bM aZ bK b_ wr bp bL comp DC DP DW DV
attribute [local irreducible] dS bB er iA cx fZ eR fU fg ig aV aX aT
theorem Cq (n:Int)(h:0≤n∧n≤64):c9 78 [i64 n] .nil 0 (fun a H' _=>a = .ret (.az 5 0 ((n.toNat+63) / 64) 1)∧H'.get 5=some (bP (gb ((n.toNat+63) / 64)))):=by
 refine(VF n ⟨h.1,aa⟩).mono ?_
 simp_all
theorem Di {ws:List aA}:((ws.map jZ).all fun e=>e.all hY)=true:=cV
theorem uU {n:Nat}(ws:List aA)(b:ws.length=n)(r:Int)(h:0≤r∧r<64 * (n:Int))(c:n≤1):c9 77 [.az 0 0 n 1,i64 r] (.put 0 (some (bP ws)) .nil) 1 (fun a H' _=>a = .ret (.ao [])∧H'.get 0=some (bP (er ws r.toNat))):=by
 subst b;exact W4 ⟨ws,aa⟩ r h
theorem QN {n:Nat}(ws:List aA)(b:ws.length=n)(r:Int)(h:0≤r∧r<64 * (n:Int))(c:n≤1):c9 82 [.az 0 0 n 1,i64 r] (.put 0 (some (bP ws)) .nil) 1 (fun a H' _=>a = .ret (.ao [])∧H'.get 0=some (bP (iA ws r.toNat))):=by
 subst b;exact QM ⟨ws,aa⟩ r h
theorem tT {n:Nat}(a b:List aA)(d:a.length=n)(e:b.length=n)(f:n≤1):c9 81 [.az 0 0 n 1,.az 1 0 n 1] (.put 0 (some (bP a)) (.put 1 (some (bP b)) .nil)) 2
 (fun c H' _=>c = .ret (.bool (!decide (cx a b=a)))∧H'.get 0=some (bP (cx a b))∧H'.get 1=some (bP b)):=by
 have:=NI a b (d.trans e.symm) aa
 grind
theorem tS {n:Nat}(a b:List aA)(d:a.length=n)(e:b.length=n)(f:n≤1):c9 81 [.az 0 0 n 1,.az 1 0 n 1] (.put 0 (some (bP a)) (.put 1 (some (bP b)) .nil)) 2
 (fun c H' _=>c = .ret .any∧H'.get 0=some (bP (cx a b))∧H'.get 1=some (bP b)):=(tT a b d e f).NU (by grind)
abbrev fA:Nat:=1000
def dm (S:List (List aA))(j:Nat):Option an:=if h:j<S.length then some (bP S[j]) else none
def eh (n a:Nat):List (List AV):=(List.range n).map fun j=>[AV.az (aV fA j) 0 a 1]
attribute [local irreducible] dm
abbrev C4 (g:Gr):an := .arr 1 (eh (g.ins.l.length+1) (cn g))
abbrev uc (g:Gr):an := .arr 1 [[.az 6 0 (g.ins.l.length+1) 1]]
abbrev HL (g:Gr)(S:List (List aA)):ai := .fq fA bU (dm S) (.put 7 (some (uc g)) (.put 6 (some (C4 g)) (.put 0 (some (.arr 3 [g.cells])) .nil)))
theorem my {n a k:Nat}{x:Int}(b:x=(k:Int))(h:k<n):(eh n a)[0+x.toNat]? = some [AV.az (aV fA k) 0 a 1]:=by
 subst b;simp[eh,h]
theorem nc {S:List (List aA)}{j:Nat}:dm S j=if h:j<S.length then some (bP S[j]) else none:=by with_unfolding_all rfl
theorem ju {S:List (List aA)}{j:Nat}(h:j<S.length):dm S j=some (bP (aK S j)):=by
 rw[nc];grind
theorem mw {ws:List aA}{ρ:Nat->Nat}:bP ws=(bP ws).cp ρ:=by simp[an.cp,AV.r1,AV.ra,AV.r0]
theorem jP {ws:List aA}{n:Nat}:(bP ws).lt n:=by simp[an.lt,AV.l1,AV.la,AV.l0]
theorem wR {S:List (List aA)}{j n:Nat}{o:an}{ρ:Nat->Nat}(h:dm S j=some o):o=o.cp ρ∧o.lt n:=by
 rw[nc] at h;split at h
 . cases h;exact⟨mw,jP⟩
 grind
theorem mu {n b m:Nat}{l:List (Nat×Nat)}(c:ble (fA+bU) m=true)(f:n≤1001):an.arr 1 (eh n b)=(an.arr 1 (eh n b)).cp (eu m fA (aV fA) l):=by
 have c:=le_of_ble_eq_true c;have g:bU=1048576:=rfl;unfold eh an.cp
 congr 1
 rw[map_map];refine map_congr_left fun j d=>?_
 have:=mem_range.1 d;have e:blt (aV fA j) m=true:=ble_eq_true_of_le (by unfold aV;omega)
 simp[Function.comp_def,map_cons,map_nil,AV.r1,AV.ra,AV.r0,eu,e,cond_true]
theorem lH {n c m:Nat}(a:ble (fA+bU) m=true)(d:n≤1001):(an.arr 1 (eh n c)).lt m:=by
 have a:=le_of_ble_eq_true a;have f:bU=1048576:=rfl;show(List.all _ _)=true;unfold eh;rw[all_map,all_eq_true];intro j b;have:=mem_range.1 b;have e:blt (aV fA j) m=true:=ble_eq_true_of_le (by unfold aV;omega)
 simp[AV.l1,AV.la,AV.l0,e]
theorem VV {g:Gr}{S:List (List aA)}{k:Nat}(h:k<g.ins.l.length)(b:cQ g.ins.l[k])(a:0≤aH g.ins.l[k]):fU g S k=iA (cx (gb (cn g)) (aK S (k+1))) (aH g.ins.l[k]).toNat:=by
 unfold fU;grind
theorem VW {g:Gr}{S:List (List aA)}{k:Nat}(h:k<g.ins.l.length)(b:cQ g.ins.l[k])(a:¬0≤aH g.ins.l[k]):fU g S k=cx (gb (cn g)) (aK S (k+1)):=by
 unfold fU;grind
theorem VX {g:Gr}{S:List (List aA)}{k:Nat}(h:k<g.ins.l.length)(a:¬cQ g.ins.l[k]):fU g S k=gb (cn g):=by
 unfold fU;grind
theorem VS {g:Gr}{S:List (List aA)}{k:Nat}(h:¬k<g.ins.l.length):fg g S k=gb (cn g):=by
 unfold fg fU;grind
theorem W1 {z:List aA}{l:List Int}{i:Nat}(h:i<l.length):er (fZ z (l.take i)) (l[i]).toNat=fZ z (l.take (i+1)):=by
 unfold fZ;rw[take_succ_eq_append_getElem h,foldl_append];rfl
theorem Wn {S:List (List aA)}{z:List aA}{l:List Int}{i:Nat}(h:i<l.length):cx (eR S z (l.take i)) (aK S (l[i]).toNat)=eR S z (l.take (i+1)):=by
 unfold eR;rw[take_succ_eq_append_getElem h,foldl_append];rfl
theorem VT {g:Gr}{S:List (List aA)}{k i:Nat}(h:k<g.ins.l.length)(hi:(aT g.ins.l[k]).length≤i):fZ (fU g S k) ((aT g.ins.l[k]).take i)=fg g S k:=by
 unfold fg;rw[dif_pos h,take_of_length_le hi]
theorem VU {g:Gr}{S:List (List aA)}{k i:Nat}(hi:(aX g k).length≤i):eR S (fg g S k) ((aX g k).take i)=ig g S k:=by
 unfold ig;rw[take_of_length_le hi]
theorem oN {g:Gr}(c:cM g){S:List (List aA)}(a:ShS g S){k i:Nat}:(eR S (fg g S k) ((aX g k).take i)).length=cn g:=
 Je (Cu a) (fun t b=>Ab c a t (mem_of_mem_take b))
theorem Nz {g:Gr}{S:List (List aA)}{H:ai}(k:S.length≤2000)(h0:H.get 0=some (.arr 3 [g.cells]))(i:H.get 6=some (C4 g))(h:H.get 7=some (uc g))(f:∀j,j<S.length->H.get (aV fA j)=some (bP (aK S j))) :
 ∀j o,(HL g S).get j=some o->H.get j=some o:=by
 intro j o e;rw[Tr.get] at e;cases c:ble fA j && blt j (fA+bU) with
 | true =>
   rw[c] at e;simp only[cond_true] at e;simp only[Bool.and_eq_true] at c;have l:=le_of_ble_eq_true c.1
   by_cases d:j - fA<S.length
   . rw [ju d] at e
     have:=f _ d;rw[show aV fA (j - fA)=j by unfold aV;omega] at this
     rw[this];exact e
   . rw[nc] at e;rw[dif_neg d] at e;cases e
 | false =>
   rw[c] at e;simp only[cond_false] at e;rw[Tr.get] at e;cases b:beq j 7 with
   | true=>rw[b] at e;rw[eq_of_beq_eq_true b,h];exact e
   | false =>
     rw[b] at e;simp only[cond_false] at e;rw[Tr.get] at e;cases b:beq j 6 with
     | true=>rw[b] at e;rw[eq_of_beq_eq_true b,i];exact e
     | false =>
       rw[b] at e;simp only[cond_false] at e;rw[Tr.get] at e;cases b:beq j 0 with
       | true=>rw[b] at e;rw[eq_of_beq_eq_true b,h0];exact e
       | false=>rw[b] at e;cases e
theorem Sh {A i n:Nat}{v:Option an}{t:ai}{o:Option an}(hi:i<bU)(h:blt n A=true)(e:t.get n=o):(Tr.put (aV A i) v t).get n=o:=by
 have h:=le_of_ble_eq_true h;have:beq n (aV A i)=false:=by
  cases e:beq n _ with
  | false=>rfl
  | true=>have:=eq_of_beq_eq_true e;unfold aV at *;omega
 rw[Tr.get,this];exact e
theorem Sg {A i:Nat}{o:an}{t:ai}:(Tr.put (aV A i) (some o) t).get (aV A i)=some o:=by
 rw[Tr.get,beq_refl _];rfl
theorem G8 {A i j:Nat}{v:Option an}{t:ai}{o:Option an}(h:j≠i)(e:t.get (aV A j)=o):(Tr.put (aV A i) v t).get (aV A j)=o:=by
 have:beq (aV A j) (aV A i)=false:=by
  cases e:beq _ _ with
  | false=>rfl
  | true=>have:=eq_of_beq_eq_true e;unfold aV at *;omega
 rw[Tr.get,this];exact e
theorem y9 {i:Ins}(h:i.l.l.length≤40):(aT i).length≤42:=by
 rw[show aT i=(if hasB _ _=true∧i.a≠-1 then [i.a] else [])++(if hasB _ _=true∧i.b≠-1 then [i.b] else [])++(if hasB _ _=true then i.l.l else []) by with_unfolding_all rfl]
 (repeat' split)<;>simp<;>omega
theorem rG {p:Prop}[Decidable p](h:p):(!decide p)=false:=by simp[h]
theorem rF {p:Prop}[Decidable p](h:¬p):(!decide p)=true:=by simp[h]
theorem qu {a b:List aA}{ρ:Nat->Nat}(h:b=a):bP a=(bP b).cp ρ:=by subst h;exact mw
theorem CT {z:List aA}{l:List Int}:fZ z (l.take 0)=z:=by with_unfolding_all rfl
theorem Jd {S:List (List aA)}{z:List aA}{l:List Int}:eR S z (l.take 0)=z:=by with_unfolding_all rfl
theorem vO {g:Gr}(a:cM g){k j:Nat}(h:j<(aX g k).length):bp ((aX g k)[j]) (g.ins.l.length+1)=true:=by
 have:=vR a _ (getElem_mem h);simp[hZ];omega
theorem oE {g:Gr}(w:cM g){S:List (List aA)}(d:ShS g S){k j:Nat}(u:k≤g.ins.l.length)(z:bU=1048576){b:Bool}{H':ai}{n M:Nat}(v:(aX g k).length≤j)
 (r:(!decide (cx (aK S k) (eR S (fg g S k) ((aX g k).take j))=aK S k))=b)(t:n≤M)
 (c:∃H:ai,H' = .put (aV fA k) (some (bP (cx (aK S k) (eR S (fg g S k) ((aX g k).take j))))) (.fq fA bU (dm S) H)∧(H.get 0,H.get 6,H.get 7)=(some (.arr 3 [g.cells]),some (C4 g),some (uc g))) :
 AE.ret (.bool b)=AE.ret (.bool (!decide (cx (aK S k) (ig g S k)=aK S k)))∧n≤M∧∀j o,(HL g (eY g S k)).get j=some o->H'.get j=some o:=by
 obtain⟨H,c,q⟩:=c;rw[VU v] at r c;simp only[Prod.mk.injEq] at q;obtain⟨f,m,h⟩:=q;have s:=w.eU;have x:fA=1000:=rfl;have p:∀n,n<1000->H'.get n=H.get n:=fun n t=>by
  rw[c];refine Sh aa (ble_eq_true_of_le aa) ?_;rw[Tr.get,show ble fA n=false from ?_]
  . rfl
  . cases e : ble fA n with
    | false=>rfl
    | true=>have:=le_of_ble_eq_true e;omega
 refine⟨by rw[r],t,Nz (S:=eY g S k) (by rw[eY,length_set,d.len];omega) ((p 0 ab).trans f) ((p 6 ab).trans m) ((p 7 ab).trans h) (fun i y=>?_)⟩
 rw[eY,length_set,d.len] at y;rw[row_step d u,c]
 by_cases a:i=k
 . subst a;rw[if_pos rfl];exact Sg
 . rw [if_neg a]
   exact G8 a ((kb aa).trans (ju (by rw[d.len];omega)))
theorem UP (g:Gr)(a:cM g)(S:List (List aA))(hs:ShS g S)(k:Nat)(e:k≤g.ins.l.length):c9 80 [i64 k,.ptr 0 0 0,.ptr 7 0 0] (HL g S) 5000000 (fun A H' n=>A = .ret (.bool (!decide (cx (aK S k) (ig g S k)=aK S k)))∧n≤5500000∧∀j o,(HL g (eY g S k)).get j=some o->H'.get j=some o):=by
 refine zd func80 ?_;have D:=g.ins.h;have m:bU=1048576:=rfl;have w:=a.eU;have p:=a.aj;have b:=qt a;have z:=mj a;have C:=hs.len;have u:wr .i64 ((k:Int)+1)=((k+1:Nat):Int):=by rw[aF aa aa];omega
 have q:=@pe (cn g);have B:=Oa a (k:=k);have f:∀t∈aX g k,t=(t.toNat:Int):=fun t v=>by have:=vR a t v;omega
 have hat2:∀t∈aX g k,t.toNat<g.ins.l.length+1:=fun t v=>by have:=vR a t v;omega
 refine zk ?_
 repeat' ((first|(refine zp ?_ ?_<;>intro h)|refine ay.mk _ (bI aa) ?_|(refine DC.pure rfl (wQ (g.ins.l[k]'aa)) ?_;rintro _ (⟨rfl,s⟩|⟨rfl,s⟩))|(refine DC.pure rfl (o0 (g.ins.l[k]'aa)) ?_;rintro _ rfl)|(refine DC.pure rfl (y8 (g.ins.l[k]'aa) (a.h_ _ (getElem_mem _))) ?_;rintro _ rfl)|(refine DC.pure rfl (vP g a k e) ?_;rintro _ rfl)|refine DC.new rfl (Cq g.aj p) Di rfl ?_|refine cb (my u aa) ?_|(refine DC.nh (k:=5000005) (l:=aV fA (k+1)) (tS (gb (cn g)) (aK S (k+1)) q (eJ hs aa) b) rfl rfl (nA aa rfl) rfl vr cV cV ?_;rintro _ H' _ ⟨rfl,c,d⟩;refine⟨rfl,_,c,d,cV,?_⟩)|(refine DC.ng (k:=5000005) (QN (cx (gb (cn g)) (aK S (k+1))) (by rw[qz (by rw[q,eJ hs aa]),q]) (aH (g.ins.l[k]'aa)) ⟨aa,by have:=a.ga _ (getElem_mem (by omega:k<g.ins.l.length));omega⟩ b) rfl rfl rfl cV ?_;rintro _ H' _ ⟨rfl,c⟩;refine⟨rfl,_,c,cV,?_⟩))<;>refine zk ?_)
 . have hlt : k < g.ins.l.length := aa
   have r:=y9 (a.h_ _ (getElem_mem hlt));refine DW.jO aC aD [0,1,2,4,5,42,43] [5000005] 10000 fA (fun i:{i:Nat // i≤(aT (g.ins.l[k]'aa)).length}=>[(44,i64 i.1)]) (fun i=>[(5000005,bP (fZ (fU g S k) ((aT (g.ins.l[k]'aa)).take i.1)))]) (fun _=>dm S) [] (fun i=>(aT (g.ins.l[k]'aa)).length+1 - i.1) (⟨0,zero_le _⟩) ?_
   conv=>whnf
   refine⟨⟨_,dh.inner rfl rfl fo (by(repeat' (first|exact jH|(refine jG (x:=?_) ?_ ?_ ?_ ?_ ?_ ?_;rotate_left;exact rfl;exact rfl;exact rfl;(first|(refine mu ?_ ?_<;>first|rfl|omega)|(refine qu ?_;exact(CT).trans (VV hlt s h))|rfl);(first|exact jP|(refine lH ?_ ?_<;>first|rfl|omega)|rfl))))) rfl iq rfl⟩,fun i=>?_⟩
   refine zg ?_
   repeat' ((first|(refine zp ?_ ?_<;>intro h)|(refine DC.pure rfl (vP g a k e) ?_;rintro _ rfl)|(refine DC.ng (k:=5000005) (uU (fZ (fU g S k) ((aT (g.ins.l[k]'aa)).take i.1)) (by rw[yc,sw hs]) ((aT (g.ins.l[k]'aa))[i.1]'aa) ⟨by have:=a.jj _ (getElem_mem hlt) _ (getElem_mem (by omega:i.1<(aT (g.ins.l[k]'aa)).length));omega,by have:=a.jj _ (getElem_mem hlt) _ (getElem_mem (by omega:i.1<(aT (g.ins.l[k]'aa)).length));omega⟩ b) rfl rfl rfl cV ?_;rintro _ H' _ ⟨rfl,c⟩;refine⟨rfl,_,c,cV,?_⟩))<;>refine zg ?_)
   all_goals first
    | (have hi : i.1 < (aT (g.ins.l[k]'aa)).length := aa
       refine⟨⟨i.1+1,hi⟩,_,dh.inner rfl rfl fo Eg rfl iq rfl,rfl,?_⟩;dsimp only;omega)
    | skip
   refine DW.jO aC aD [0,2,4,5,54,55] [5000005] 10000 fA (fun j:{j:Nat // j≤(aX g k).length}=>[(56,i64 j.1)]) (fun j=>[(5000005,bP (eR S (fg g S k) ((aX g k).take j.1)))]) (fun _=>dm S) [] (fun j=>(aX g k).length+1 - j.1) (⟨0,zero_le _⟩) ?_
   conv=>whnf
   refine⟨⟨_,dh.inner rfl rfl fo Ef rfl iq rfl⟩,fun j=>?_⟩
   refine zk ?_
   repeat' ((first|refine Rq.mk (vO a aa) ?_|(refine zp ?_ ?_<;>intro h)|refine ay.mk _ (bI aa) ?_|refine cb (my (f _ (getElem_mem (by omega:j.1<(aX g k).length))) (hat2 _ (getElem_mem (by omega:j.1<(aX g k).length)))) ?_|refine cb (my (k:=k) rfl aa) ?_|(refine DC.nh (k:=5000005) (l:=aV fA ((aX g k)[j.1]'aa).toNat) (tS (eR S (fg g S k) ((aX g k).take j.1)) (aK S ((aX g k)[j.1]'aa).toNat) (oN a hs) (eJ hs im) b) rfl rfl (nA im rfl) rfl zF cV cV ?_;rintro _ H' _ ⟨rfl,c,d⟩;refine⟨rfl,_,c,d,cV,?_⟩)|(refine DC.nh (k:=aV fA k) (l:=5000005) (tT (aK S k) (eR S (fg g S k) ((aX g k).take j.1)) (eJ hs e) (oN a hs) b) rfl rfl (Ne.symm (nA aa rfl)) vr rfl cV cV ?_;rintro _ H' _ ⟨rfl,c,d⟩;refine⟨rfl,_,c,d,cV,?_⟩))<;>refine zk ?_)
   all_goals first
    | (have hj : j.1 < (aX g k).length := aa
       refine⟨⟨j.1+1,hj⟩,_,dh.inner rfl rfl fo zt rfl iq rfl,rfl,?_⟩;dsimp only;omega)
    | (refine oE a hs e m (j:=j.1) aa (rG ?_) ?_ ?_;exact h;exact le_of_ble_eq_true rfl;exact⟨_,rfl,rfl⟩)
    | (refine oE a hs e m (j:=j.1) aa (rF ?_) ?_ ?_;exact h;exact le_of_ble_eq_true rfl;exact⟨_,rfl,rfl⟩)
 . have hlt : k < g.ins.l.length := aa
   have r:=y9 (a.h_ _ (getElem_mem hlt));refine DW.jO aC aD [0,1,2,4,5,42,43] [5000005] 10000 fA (fun i:{i:Nat // i≤(aT (g.ins.l[k]'aa)).length}=>[(44,i64 i.1)]) (fun i=>[(5000005,bP (fZ (fU g S k) ((aT (g.ins.l[k]'aa)).take i.1)))]) (fun _=>dm S) [] (fun i=>(aT (g.ins.l[k]'aa)).length+1 - i.1) (⟨0,zero_le _⟩) ?_
   conv=>whnf
   refine⟨⟨_,dh.inner rfl rfl fo (by(repeat' (first|exact jH|(refine jG (x:=?_) ?_ ?_ ?_ ?_ ?_ ?_;rotate_left;exact rfl;exact rfl;exact rfl;(first|(refine mu ?_ ?_<;>first|rfl|omega)|(refine qu ?_;exact(CT).trans (VW hlt s (Int.not_le.2 h)))|rfl);(first|exact jP|(refine lH ?_ ?_<;>first|rfl|omega)|rfl))))) rfl iq rfl⟩,fun i=>?_⟩
   refine zg ?_
   repeat' ((first|(refine zp ?_ ?_<;>intro h)|(refine DC.pure rfl (vP g a k e) ?_;rintro _ rfl)|(refine DC.ng (k:=5000005) (uU (fZ (fU g S k) ((aT (g.ins.l[k]'aa)).take i.1)) (by rw[yc,sw hs]) ((aT (g.ins.l[k]'aa))[i.1]'aa) ⟨by have:=a.jj _ (getElem_mem hlt) _ (getElem_mem (by omega:i.1<(aT (g.ins.l[k]'aa)).length));omega,by have:=a.jj _ (getElem_mem hlt) _ (getElem_mem (by omega:i.1<(aT (g.ins.l[k]'aa)).length));omega⟩ b) rfl rfl rfl cV ?_;rintro _ H' _ ⟨rfl,c⟩;refine⟨rfl,_,c,cV,?_⟩))<;>refine zg ?_)
   all_goals first
    | (have hi : i.1 < (aT (g.ins.l[k]'aa)).length := aa
       refine⟨⟨i.1+1,hi⟩,_,dh.inner rfl rfl fo Eg rfl iq rfl,rfl,?_⟩;dsimp only;omega)
    | skip
   refine DW.jO aC aD [0,2,4,5,54,55] [5000005] 10000 fA (fun j:{j:Nat // j≤(aX g k).length}=>[(56,i64 j.1)]) (fun j=>[(5000005,bP (eR S (fg g S k) ((aX g k).take j.1)))]) (fun _=>dm S) [] (fun j=>(aX g k).length+1 - j.1) (⟨0,zero_le _⟩) ?_
   conv=>whnf
   refine⟨⟨_,dh.inner rfl rfl fo Ef rfl iq rfl⟩,fun j=>?_⟩
   refine zk ?_
   repeat' ((first|refine Rq.mk (vO a aa) ?_|(refine zp ?_ ?_<;>intro h)|refine ay.mk _ (bI aa) ?_|refine cb (my (f _ (getElem_mem (by omega:j.1<(aX g k).length))) (hat2 _ (getElem_mem (by omega:j.1<(aX g k).length)))) ?_|refine cb (my (k:=k) rfl aa) ?_|(refine DC.nh (k:=5000005) (l:=aV fA ((aX g k)[j.1]'aa).toNat) (tS (eR S (fg g S k) ((aX g k).take j.1)) (aK S ((aX g k)[j.1]'aa).toNat) (oN a hs) (eJ hs im) b) rfl rfl (nA im rfl) rfl zF cV cV ?_;rintro _ H' _ ⟨rfl,c,d⟩;refine⟨rfl,_,c,d,cV,?_⟩)|(refine DC.nh (k:=aV fA k) (l:=5000005) (tT (aK S k) (eR S (fg g S k) ((aX g k).take j.1)) (eJ hs e) (oN a hs) b) rfl rfl (Ne.symm (nA aa rfl)) vr rfl cV cV ?_;rintro _ H' _ ⟨rfl,c,d⟩;refine⟨rfl,_,c,d,cV,?_⟩))<;>refine zk ?_)
   all_goals first
    | (have hj : j.1 < (aX g k).length := aa
       refine⟨⟨j.1+1,hj⟩,_,dh.inner rfl rfl fo zt rfl iq rfl,rfl,?_⟩;dsimp only;omega)
    | (refine oE a hs e m (j:=j.1) aa (rG ?_) ?_ ?_;exact h;exact le_of_ble_eq_true rfl;exact⟨_,rfl,rfl⟩)
    | (refine oE a hs e m (j:=j.1) aa (rF ?_) ?_ ?_;exact h;exact le_of_ble_eq_true rfl;exact⟨_,rfl,rfl⟩)
 . have hlt : k < g.ins.l.length := aa
   have r:=y9 (a.h_ _ (getElem_mem hlt));refine DW.jO aC aD [0,1,2,4,5,42,43] [5000005] 10000 fA (fun i:{i:Nat // i≤(aT (g.ins.l[k]'aa)).length}=>[(44,i64 i.1)]) (fun i=>[(5000005,bP (fZ (fU g S k) ((aT (g.ins.l[k]'aa)).take i.1)))]) (fun _=>dm S) [] (fun i=>(aT (g.ins.l[k]'aa)).length+1 - i.1) (⟨0,zero_le _⟩) ?_
   conv=>whnf
   refine⟨⟨_,dh.inner rfl rfl fo (by(repeat' (first|exact jH|(refine jG (x:=?_) ?_ ?_ ?_ ?_ ?_ ?_;rotate_left;exact rfl;exact rfl;exact rfl;(first|(refine mu ?_ ?_<;>first|rfl|omega)|(refine qu ?_;exact(CT).trans (VX hlt s))|rfl);(first|exact jP|(refine lH ?_ ?_<;>first|rfl|omega)|rfl))))) rfl iq rfl⟩,fun i=>?_⟩
   refine zg ?_
   repeat' ((first|(refine zp ?_ ?_<;>intro h)|(refine DC.pure rfl (vP g a k e) ?_;rintro _ rfl)|(refine DC.ng (k:=5000005) (uU (fZ (fU g S k) ((aT (g.ins.l[k]'aa)).take i.1)) (by rw[yc,sw hs]) ((aT (g.ins.l[k]'aa))[i.1]'aa) ⟨by have:=a.jj _ (getElem_mem hlt) _ (getElem_mem (by omega:i.1<(aT (g.ins.l[k]'aa)).length));omega,by have:=a.jj _ (getElem_mem hlt) _ (getElem_mem (by omega:i.1<(aT (g.ins.l[k]'aa)).length));omega⟩ b) rfl rfl rfl cV ?_;rintro _ H' _ ⟨rfl,c⟩;refine⟨rfl,_,c,cV,?_⟩))<;>refine zg ?_)
   all_goals first
    | (have hi : i.1 < (aT (g.ins.l[k]'aa)).length := aa
       refine⟨⟨i.1+1,hi⟩,_,dh.inner rfl rfl fo Eg rfl iq rfl,rfl,?_⟩;dsimp only;omega)
    | skip
   refine DW.jO aC aD [0,2,4,5,54,55] [5000005] 10000 fA (fun j:{j:Nat // j≤(aX g k).length}=>[(56,i64 j.1)]) (fun j=>[(5000005,bP (eR S (fg g S k) ((aX g k).take j.1)))]) (fun _=>dm S) [] (fun j=>(aX g k).length+1 - j.1) (⟨0,zero_le _⟩) ?_
   conv=>whnf
   refine⟨⟨_,dh.inner rfl rfl fo Ef rfl iq rfl⟩,fun j=>?_⟩
   refine zk ?_
   repeat' ((first|refine Rq.mk (vO a aa) ?_|(refine zp ?_ ?_<;>intro h)|refine ay.mk _ (bI aa) ?_|refine cb (my (f _ (getElem_mem (by omega:j.1<(aX g k).length))) (hat2 _ (getElem_mem (by omega:j.1<(aX g k).length)))) ?_|refine cb (my (k:=k) rfl aa) ?_|(refine DC.nh (k:=5000005) (l:=aV fA ((aX g k)[j.1]'aa).toNat) (tS (eR S (fg g S k) ((aX g k).take j.1)) (aK S ((aX g k)[j.1]'aa).toNat) (oN a hs) (eJ hs im) b) rfl rfl (nA im rfl) rfl zF cV cV ?_;rintro _ H' _ ⟨rfl,c,d⟩;refine⟨rfl,_,c,d,cV,?_⟩)|(refine DC.nh (k:=aV fA k) (l:=5000005) (tT (aK S k) (eR S (fg g S k) ((aX g k).take j.1)) (eJ hs e) (oN a hs) b) rfl rfl (Ne.symm (nA aa rfl)) vr rfl cV cV ?_;rintro _ H' _ ⟨rfl,c,d⟩;refine⟨rfl,_,c,d,cV,?_⟩))<;>refine zk ?_)
   all_goals first
    | (have hj : j.1 < (aX g k).length := aa
       refine⟨⟨j.1+1,hj⟩,_,dh.inner rfl rfl fo zt rfl iq rfl,rfl,?_⟩;dsimp only;omega)
    | (refine oE a hs e m (j:=j.1) aa (rG ?_) ?_ ?_;exact h;exact le_of_ble_eq_true rfl;exact⟨_,rfl,rfl⟩)
    | (refine oE a hs e m (j:=j.1) aa (rF ?_) ?_ ?_;exact h;exact le_of_ble_eq_true rfl;exact⟨_,rfl,rfl⟩)
 . refine DW.jO aC aD [0, 2, 4, 5, 54, 55] [5000005] 10000 fA (fun j : {j : Nat // j ≤ (aX g k).length} => [(56, i64 j.1)]) (fun j => [(5000005, bP (eR S (fg g S k) ((aX g k).take j.1)))]) (fun _ => dm S) [] (fun j => (aX g k).length + 1 - j.1) (⟨0, zero_le _⟩) ?_
   conv=>whnf
   refine⟨⟨_,dh.inner rfl rfl fo (by(repeat' (first|exact jH|(refine jG (x:=?_) ?_ ?_ ?_ ?_ ?_ ?_;rotate_left;exact rfl;exact rfl;exact rfl;(first|(refine mu ?_ ?_<;>first|rfl|omega)|(refine qu ?_;exact(Jd).trans (VS aa))|rfl);(first|exact jP|(refine lH ?_ ?_<;>first|rfl|omega)|rfl))))) rfl iq rfl⟩,fun j=>?_⟩
   refine zk ?_
   repeat' ((first|refine Rq.mk (vO a aa) ?_|(refine zp ?_ ?_<;>intro h)|refine ay.mk _ (bI aa) ?_|refine cb (my (f _ (getElem_mem (by omega:j.1<(aX g k).length))) (hat2 _ (getElem_mem (by omega:j.1<(aX g k).length)))) ?_|refine cb (my (k:=k) rfl aa) ?_|(refine DC.nh (k:=5000005) (l:=aV fA ((aX g k)[j.1]'aa).toNat) (tS (eR S (fg g S k) ((aX g k).take j.1)) (aK S ((aX g k)[j.1]'aa).toNat) (oN a hs) (eJ hs im) b) rfl rfl (nA im rfl) rfl zF cV cV ?_;rintro _ H' _ ⟨rfl,c,d⟩;refine⟨rfl,_,c,d,cV,?_⟩)|(refine DC.nh (k:=aV fA k) (l:=5000005) (tT (aK S k) (eR S (fg g S k) ((aX g k).take j.1)) (eJ hs e) (oN a hs) b) rfl rfl (Ne.symm (nA aa rfl)) vr rfl cV cV ?_;rintro _ H' _ ⟨rfl,c,d⟩;refine⟨rfl,_,c,d,cV,?_⟩))<;>refine zk ?_)
   all_goals first
    | (have hj : j.1 < (aX g k).length := aa
       refine⟨⟨j.1+1,hj⟩,_,dh.inner rfl rfl fo zt rfl iq rfl,rfl,?_⟩;dsimp only;omega)
    | (refine oE a hs e m (j:=j.1) aa (rG ?_) ?_ ?_;exact h;exact le_of_ble_eq_true rfl;exact⟨_,rfl,rfl⟩)
    | (refine oE a hs e m (j:=j.1) aa (rF ?_) ?_ ?_;exact h;exact le_of_ble_eq_true rfl;exact⟨_,rfl,rfl⟩)
theorem Ib (g:Gr)(h:cM g)(S:List (List aA))(d:ShS g S)(a:Int)(k:Nat)(e:a=(k:Int))(f:k≤g.ins.l.length):c9 80 [i64 a,.ptr 0 0 0,.ptr 7 0 0] (HL g S) 5000000 (fun b H' n=>b = .ret (.bool (!decide (cx (aK S k) (ig g S k)=aK S k)))∧n=5500000∧H'=HL g (eY g S k)):=by
 subst e;exact(UP g h S d k f).forget (by rintro b H' n ⟨i,j,c⟩;exact⟨_,5500000,j,c,i,rfl,rfl⟩)
end Go.Ago
end
section
namespace Go.Ago
open Go.Proofs List Nat Tryz
section
variable {P:Program} {E:Env}
def tK (n:Nat)(o:an):Prop:=∃b a,o = .arr b a∧a.map (List.map (AV.r1 fun k=>k))=a∧(a.all fun e=>e.all (AV.l1 n))=true
theorem tK.rel {n:Nat}{o:an}(q:tK n o){c c':Ctx}{w:World}{B:fp}(hi:c'.au=c.au)(m:∀k,k<n->c'.f k=c.f k)(h:fH c w B o):fH c' w B o:=by
 obtain⟨H,D,rfl,F,p⟩:=q;obtain⟨b,t,r,s,u,y,g⟩:=h;refine⟨b,t,r,s,u,y,fun i e a=>⟨(g i e a).1,fun j x d=>?_⟩⟩
 obtain⟨v,z,A⟩:=(g i e a).2 j x d;have G:e.map (AV.r1 fun k=>k)=e:=by
  have C:(D.map (List.map (AV.r1 fun k=>k)))[i]? = some (e.map (AV.r1 fun k=>k)):=by rw[getElem?_map,a];rfl
  grind
 have l:x.r1 (fun k=>k)=x:=by
  have C:(e.map (AV.r1 fun k=>k))[j]? = some (x.r1 fun k=>k):=by rw[getElem?_map,d];rfl
  grind
 exact⟨v,z,sI (ρ:=fun k=>k) (n:=n) hi m (all_eq_true.1 (all_eq_true.1 p e (mem_of_getElem? a)) x (mem_of_getElem? d)) (by rw[l];exact A)⟩
theorem DC.later {g:FuncId}{args:List AV}{H:ai}{nx m:Nat}{R R':AE->ai->Nat->Prop}(h:DC P E g args H nx R)(ha:args.map (AV.r2 fun k=>k)=args)(hl:args.all (AV.l2 nx)=true)
 (G:∀k o,H.get k=some o->k<nx∧tK nx o)(hq:∀D H' n,R D H' n->D.flat=true∧(∀k o,H'.get k=some o->k<nx∧tK nx o)∧R' D H' m):DC P E g args H m R':=by
 obtain⟨D,H',nx',⟨h0,K⟩,Q⟩:=h;obtain⟨q1,F,q3⟩:=hq _ _ _ Q;refine⟨D,H',m,⟨h0,fun c w vs s hf x=>?_⟩,q3⟩
 have d:∀k,k<nx->(⟨fun k=>if k<nx then c.f k else none,c.au⟩:Ctx).f k=c.f k:=fun k l=>if_pos l
 have X:aN E.bR ⟨fun k=>if k<nx then c.f k else none,c.au⟩ w H:=by
  refine⟨s.bH,fun k B e=>?_,fun k o e=>?_,fun k z o U B I e A f t i=>?_,fun g J e=>?_⟩
  . by_cases l : k < nx
    . rw[d k l] at e;exact s.bX _ B e
    . simp[l] at e
  . obtain ⟨L, M⟩ := G k o e
    obtain⟨B,N,O,S⟩:=s.obj _ _ e;exact⟨B,(d k L).trans N,O,M.rel (c:=c) rfl d S⟩
  . rw [d k (G k o e).1] at f
    rw[d z (G z U A).1] at t;exact s.inj _ _ _ _ B I e A f t i
  . have := s.bR g J e
    cases this with
    | bq K Q h3 h4=>exact .bq K Q h3 h4
 have T:aQ ⟨fun k=>if k<nx then c.f k else none,c.au⟩ w args vs:=by
  rw[<-ha] at x;exact qD (c:=c) (f:=AV.r2 fun k=>k) (fun y v a b=>sJ (c:=c) (c':=⟨fun k=>if k<nx then c.f k else none,c.au⟩) (ρ:=fun k=>k) (n:=nx) rfl d a b) hl x.1 x.2
 have q:∀b,Own ⟨fun k=>if k<nx then c.f k else none,c.au⟩ H b->Own c H b:=by
  rintro b ⟨k,o,B,l,p,rfl⟩
  rw[d k (G k o l).1] at p;exact⟨k,o,B,l,p,rfl⟩
 refine(K _ w vs X (fun k l=>if_neg (Nat.not_lt.2 l)) T).mono ?_
 rintro e w' ⟨V,_,_,_,r,u,_,_,Y,rfl,rfl,rfl⟩
 have C:∀k,k<nx->c.f k=V.f k:=fun k l=>((r.f k l).trans (d k l)).symm
 have Z:∀b,c.au b->w'.heap[b]? = w.heap[b]?:=fun b i=>r.other b (s.bH b i) fun ho=>s.kO i (q b ho)
 refine⟨⟨c.f,V.au⟩,_,m,_,⟨fun _ _=>rfl,fun b i=>r.au b i,r.os,r.tape,r.output,r.size,fun b i hn=>r.other b i fun ho=>hn (q b ho),fun b i=>?_,fun b i=>?_⟩,
  ⟨u.bH,fun k B e=>Nat.lt_of_lt_of_le (s.bX k B e) r.size,fun j o e=>?_,fun k z o U B I e A f t i=>?_,fun g J e=>(s.bR g J e).mono ⟨fun _ _ e=>e,fun b i=>r.au b i⟩ Z⟩,Nat.le_refl _,hf,wX Y q1,rfl,rfl,rfl⟩
 . rcases r.eG b i with g | g | g
   . exact .inl g
   . exact .inr (.inl (q b g))
   . exact .inr (.inr g)
 . obtain ⟨k, o, B, l, p, rfl⟩ := i
   have p:c.f k=some B:=p;rw[C k (F k o l).1] at p;rcases r.own B.b ⟨k,o,B,l,p,rfl⟩ with g|g
   . exact .inl (q _ g)
   . exact .inr g
 . obtain ⟨L, M⟩ := F j o e
   obtain⟨B,N,O,S⟩:=u.obj _ _ e;exact⟨B,(C j L).trans N,O,M.rel (c:=V) rfl C S⟩
 . have f : c.f k = some B := f
   have t:c.f z=some I:=t;rw[C k (F k o e).1] at f;rw[C z (F z U A).1] at t;exact u.inj _ _ _ _ B I e A f t i
end
theorem Ep {g:Gr}{S:List (List aA)}(d:g.ins.l.length+1≤1001):∀j o,(HL g S).get j=some o->j<5000000∧tK 5000000 o:=by
 intro j o e;rw[Tr.get] at e;cases c:ble fA j && blt j (fA+bU) with
 | true =>
   rw[c] at e;simp only[cond_true] at e;simp only[Bool.and_eq_true] at c;have f:=le_of_ble_eq_true c.2;have h:fA=1000:=rfl;have i:bU=1048576:=rfl;rw[nc] at e;split at e
   . cases e
     refine⟨aa,1,_,rfl,by simp[AV.r1,AV.ra,AV.r0,Function.comp_def],?_⟩
     exact jP (n:=5000000)
   . cases e
 | false =>
   rw[c] at e;simp only[cond_false] at e;rw[Tr.get] at e;cases b:beq j 7 with
   | true=>rw[b] at e;cases e;rw[eq_of_beq_eq_true b];exact⟨ab,1,_,rfl,rfl,rfl⟩
   | false =>
     rw[b] at e;simp only[cond_false] at e;rw[Tr.get] at e;cases b:beq j 6 with
     | true =>
       rw[b] at e;cases e;rw[eq_of_beq_eq_true b];exact⟨ab,1,_,rfl,by simp[eh,AV.r1,AV.ra,AV.r0,Function.comp_def],lH (m:=5000000) ab d⟩
     | false =>
       rw[b] at e;simp only[cond_false] at e;rw[Tr.get] at e;cases b:beq j 0 with
       | true=>rw[b] at e;cases e;rw[eq_of_beq_eq_true b];exact⟨ab,3,_,rfl,rfl,rfl⟩
       | false=>rw[b] at e;cases e
theorem UQ (g:Gr)(c:cM g)(S:List (List aA))(d:ShS g S)(a:Int)(k:Nat)(e:a=(k:Int))(f:k≤g.ins.l.length):c9 80 [i64 a,.ptr 0 0 0,.ptr 7 0 0] (HL g S) 8000000 (fun b H' n=>b = .ret (.bool (!decide (cx (aK S k) (ig g S k)=aK S k)))∧n=8500000∧H'=HL g (eY g S k)):=
 (((Ib g c S d a k e f).later (R' := fun b H' n => b = .ret _ ∧ n = 8000000 ∧ H' = HL g _) rfl rfl (Ep (by have := c.eU; omega))
   (by rintro b H' n ⟨rfl,rfl,rfl⟩;exact⟨rfl,Ep (by have:=c.eU;omega),rfl,rfl,rfl⟩)).raise (M:=8500000) (ag))
end Go.Ago
end
namespace Go.Ago
open Go.Proofs List Nat Tryz
attribute [local irreducible] bN bM aZ bK b_ wr bp bL comp DC DP DW DV
attribute [local irreducible] dS bB er iA cx fZ eR fU fg ig aV aX aT dm eY jR
structure pF (g:Gr) where
 S:List (List aA)
 sh:ShS g S
 lo:mN g S
def pF.step {g:Gr}(b:cM g)(x:pF g)(k:Nat)(a:k≤g.ins.l.length):pF g:=⟨eY g x.S k,x.sh.step b a,x.lo.step b x.sh a⟩
structure tN (g:Gr)(S:List (List aA)) where
 m:Nat
 hm:m≤g.ins.l.length+1
 sat:∀k,m≤k->k≤g.ins.l.length->Sat g S k
structure j6 (g:Gr)(S:List (List aA)) where
 m:Nat
 hm:m≤g.ins.l.length
 x:pF g
 lt:jR x.S<jR S
theorem UR (g:Gr)(e:cM g)(S:List (List aA))(b:ShS g S)(a:Int)(k:Nat)(f:a=(k:Int))(d:k≤g.ins.l.length):c9 80 [i64 a,.ptr 0 0 0,.ptr 7 0 0] (HL g S) 5000000
 (fun c H' n=>(c = .ret (.bool false)∧H'=HL g S∧n=5500000∧Sat g S k)∨(c = .ret (.bool true)∧H'=HL g (eY g S k)∧n=5500000∧¬Sat g S k)):=by
 refine(Ib g e S b a k f d).mono ?_
 rintro _ _ _ ⟨rfl,rfl,rfl⟩
 by_cases h:Sat g S k
 . exact .inl ⟨by rw[rG (show cx _ _=aK S k from h)],by rw[Ln b d h],rfl,h⟩
 exact .inr ⟨by rw[rF (show ¬cx _ _=aK S k from h)],rfl,rfl,h⟩
theorem US (g:Gr)(e:cM g)(S:List (List aA))(b:ShS g S)(a:Int)(k:Nat)(f:a=(k:Int))(d:k≤g.ins.l.length):c9 80 [i64 a,.ptr 0 0 0,.ptr 7 0 0] (HL g S) 8000000
 (fun c H' n=>(c = .ret (.bool false)∧H'=HL g S∧n=8500000∧Sat g S k)∨(c = .ret (.bool true)∧H'=HL g (eY g S k)∧n=8500000∧¬Sat g S k)):=by
 refine(UQ g e S b a k f d).mono ?_
 rintro _ _ _ ⟨rfl,rfl,rfl⟩
 by_cases h:Sat g S k
 . exact .inl ⟨by rw[rG (show cx _ _=aK S k from h)],by rw[Ln b d h],rfl,h⟩
 exact .inr ⟨by rw[rF (show ¬cx _ _=aK S k from h)],rfl,rfl,h⟩
def tN.next {g:Gr}{S:List (List aA)}(y:tN g S)(h:Sat g S (y.m - 1)):tN g S:=
 ⟨y.m - 1,by have:=y.hm;omega,fun k c b=>by
  rcases Nat.lt_or_ge k y.m with a|a
  . grind
  . exact y.sat k a b⟩
def j6.skip {g:Gr}{S:List (List aA)}(z:j6 g S):j6 g S:=⟨z.m - 1,by have:=z.hm;omega,z.x,z.lt⟩
def j6.step {g:Gr}(b:cM g){S:List (List aA)}(z:j6 g S)(a:z.m - 1≤g.ins.l.length):j6 g S:=
 ⟨z.m - 1,by grind,z.x.step b (z.m - 1) a,Nat.lt_of_le_of_lt (IE b z.x.sh a).1 z.lt⟩
def j6.first {g:Gr}(b:cM g)(x:pF g)(m:Nat)(a:m≤g.ins.l.length)(h:¬Sat g x.S m):j6 g x.S:=
 ⟨m,aa,x.step b m a,(IE b x.sh a).2 h⟩
theorem YK (g:Gr)(c:cM g)(q:pF g):c9 79 [.az 6 0 (g.ins.l.length+1) 1,.fn (.func 80) [] [.ptr 0 0 0,.ptr 7 0 0]] (HL g q.S) 3000000 (fun ae H' n=>ae = .ret (.ao [])∧n≤16000000∧∃S,fy g S∧∀j o,(HL g S).get j=some o->H'.get j=some o):=by
 refine zd func79 ?_;have hil:=g.ins.h;have hF:bU=1048576:=rfl;have hfew:=c.eU;refine zg ?_
 repeat' (refine DW.scope aC aD ?_<;>refine zg ?_)
 refine DW.jO aC aD [0,1] [] 1000000 fA (fun x:pF g=>[]) (fun x=>[]) (fun x=>dm x.S) [] (fun x=>jR x.S) (q) ?_
 conv=>whnf
 refine⟨⟨_,dh.inner rfl rfl fo lP rfl (by(intro j o hj hg0;(exact vp))) rfl⟩,fun x=>?_⟩
 conv=>whnf
 refine DW.jO aC aD [0,1,5,6,7] [] 100000 fA (fun y:tN g x.S=>[(4,i64 ((y.m:Int) - 1))]) (fun y=>[]) (fun y=>dm x.S) [] (fun y=>y.m) (⟨g.ins.l.length+1,Nat.le_refl _,fun k h1 h2=>aa⟩) ?_
 conv=>whnf
 refine⟨⟨_,dh.inner rfl rfl fo lP rfl (by(intro j o hj hg0;(exact vp))) rfl⟩,fun y=>?_⟩
 refine zg ?_
 repeat' ((first|(refine zp ?_ ?_<;>intro h)|(refine DC.bump (m:=5000000) rfl ?_;refine(UR g c x.S x.sh _ (y.m - 1) aa (by have:=y.hm;omega)).mono ?_;rintro _ _ _ (⟨rfl,rfl,rfl,a⟩|⟨rfl,rfl,rfl,a⟩)))<;>refine zg ?_)
 all_goals first
  | exact⟨rfl,le_of_ble_eq_true rfl,x.S,fy.mk' c x.sh x.lo (fun k hk=>y.sat k aa hk),fun j o h=>h⟩
  | (have f := y.hm
     obtain⟨e,d⟩:∃e:tN g x.S,e.m=y.m - 1:=⟨y.next a,rfl⟩;refine⟨e,_,dh.inner rfl rfl fo lP rfl iq rfl,rfl,?_⟩;show e.m<y.m;omega)
  | skip
 have f:=y.hm;obtain⟨z0,hz0,p⟩:∃z:j6 g x.S,z.m=y.m - 1∧z.x.S=eY g x.S (y.m - 1):=⟨j6.first c x (y.m - 1) aa a,rfl,rfl⟩;refine DW.jO aC aD [0,1,5,6,7,8,9,12,13,14,15,16] [] 100000 fA (fun z:j6 g x.S=>[(4,i64 ((z.m:Int) - 1))]) (fun z=>[]) (fun z=>dm z.x.S) [] (fun z=>z.m) (z0) ?_
 conv=>whnf
 refine⟨⟨_,dh.inner rfl rfl fo lP rfl (by(intro j o hj hg0;(try rw[p] at hg0);(exact vp))) rfl⟩,fun z=>?_⟩
 refine zg ?_
 repeat' ((first|(refine zp ?_ ?_<;>intro h)|(refine DC.bump (m:=8000000) rfl ?_;refine(US g c z.x.S z.x.sh _ (z.m - 1) aa (by have:=z.hm;omega)).mono ?_;rintro _ _ _ (⟨rfl,rfl,rfl,a⟩|⟨rfl,rfl,rfl,a⟩)))<;>refine zg ?_)
 all_goals have hzm:=z.hm
 all_goals first
  | (have i : Sat g z.x.S (z.m - 1) := a
     obtain⟨b,d,hy2⟩:∃b:j6 g x.S,b.m=z.m - 1∧b.x.S=z.x.S:=⟨z.skip,rfl,rfl⟩;refine⟨b,_,dh.inner rfl rfl fo lP rfl vt rfl,rfl,?_⟩;show b.m<z.m;omega)
  | (have i : ¬ Sat g z.x.S (z.m - 1) := a
     obtain⟨b,d,hy2⟩:∃b:j6 g x.S,b.m=z.m - 1∧b.x.S=eY g z.x.S (z.m - 1):=⟨z.step c aa,rfl,rfl⟩;refine⟨b,_,dh.inner rfl rfl fo lP rfl vt rfl,rfl,?_⟩;show b.m<z.m;omega)
  | (refine ⟨z.x, _, dh.inner rfl rfl fo lP rfl iq rfl, rfl, ?_⟩
     exact z.lt)
end Go.Ago
section
namespace Go.Ago
open Go.Proofs List Nat Tryz
attribute [local irreducible] bN bM aZ bK b_ wr bp bL comp DC DP DW DV
attribute [local irreducible] dS bB er iA cx fZ eR fU fg ig aV aX aT dm eY jR
theorem sr {l l' a:Int}{b s:Nat}(h:l=l')(e:a=l')(h0:0≤l'∧l'≤1000000)(c:ble b 10000=true)(g:blt 0 s=true):(decide (0≤l) && decide (l≤a) && decide (a≤9223372036854775807) && decide ((b:Int) * a≤140737488355328) && blt 0 s)=true:=by
 subst e;have d:=le_of_ble_eq_true c;have f:b * a≤10000 * 1000000:=Int.mul_le_mul aa h0.2 h0.1 ab
 grind
def iK (n a k:Nat):List (List AV):=(List.range n).map fun j=>if j<k then [AV.az (aV fA j) 0 a 1] else [AV.ah]
theorem Ka {n a k:Nat}(h:n≤k):iK n a k=eh n a:=by
 refine map_congr_left fun j b=>?_
 grind
theorem XF {n a:Nat}{c:Nat}(h:c=n):replicate c [AV.ah]=iK n a 0:=by
 subst h;unfold iK;simp;rw[map_const',length_range]
theorem JQ {n d k m NEW:Nat}{l:List (Nat×Nat)}(f:ble m fA=true)(v:n≤1001)(r:k<n){i:Nat}(hi:i=k) :
 an.arr 1 ((iK n d k).set i [AV.az NEW 0 d 1])=(an.arr 1 (iK n d (k+1))).cp (eu m fA (fun j=>bif beq j k then NEW else aV fA j) l):=by
 subst hi;have f:=le_of_ble_eq_true f;have w:fA=1000:=rfl;have s:bU=1048576:=rfl;show an.arr 1 _=an.arr 1 _
 congr 1
 unfold iK;rw[map_map];refine ext_getElem ag fun j p t=>?_
 have u:j<n:=by simpa using p
 have h:blt (fA+j) m=false:=by
  cases e:blt (fA+j) m with
  | false=>rfl
  | true=>have:=le_of_ble_eq_true e;omega
 have o:(ble fA (fA+j) && blt (fA+j) (fA+bU))=true:=by
  rw[ble_eq_true_of_le (le_add_right _ _),show blt (fA+j) (fA+bU)=true from ble_eq_true_of_le aa];rfl
 have g:eu m fA (fun j=>bif beq j i then NEW else aV fA j) l (aV fA j)=bif beq j i then NEW else aV fA j:=by
  conv=>lhs;rw[HD]
  unfold eu;rw[h,o];simp[HD]
 by_cases b:j=i
 . subst b
   simp only[getElem_set_self,getElem_map,getElem_range,Function.comp_apply,if_pos (lt_succ_self j),map_cons,map_nil,AV.r1,AV.ra,AV.r0];rw[g,show beq j j=true from beq_refl j];rfl
 . have q:beq j i=false:=by
    cases e:beq j i with
    | false=>rfl
    | true=>exact absurd (eq_of_beq_eq_true e) b
   rw[getElem_set_ne (Ne.symm b)];simp only[getElem_map,getElem_range,Function.comp_apply]
   by_cases c:j<i
   . rw [if_pos c, if_pos aa]
     simp only[map_cons,map_nil,AV.r1,AV.ra,AV.r0];rw[g,q];rfl
   . rw[if_neg c,if_neg aa];rfl
theorem xv {n c k m:Nat}(b:ble (fA+bU) m=true)(f:n≤1001):(an.arr 1 (iK n c k)).lt m:=by
 have b:=le_of_ble_eq_true b;have g:bU=1048576:=rfl;show(List.all _ _)=true;unfold iK;rw[all_map,all_eq_true];intro j d;have:=mem_range.1 d;have e:blt (aV fA j) m=true:=ble_eq_true_of_le (by unfold aV;omega)
 simp[Function.comp_apply];split<;>simp[AV.l1,AV.la,AV.l0,e]
theorem J8 {n a c:Nat}{ρ:Nat->Nat}(h:c=n):an.arr 1 (replicate c [AV.ah])=(an.arr 1 (iK n a 0)).cp ρ:=by
 rw[<-XF h];show an.arr 1 _=an.arr 1 _;rw[map_replicate];rfl
theorem E3 {c n:Nat}{ρ:Nat->Nat}(h:c=n)(a:ρ 6=6):an.arr 1 [[AV.az 6 0 c 1]]=(an.arr 1 [[AV.az 6 0 n 1]]).cp ρ:=by
 subst h;simp[an.cp,AV.r1,AV.ra,AV.r0,a]
abbrev kh (g:Gr)(k:Nat):List (List aA):=replicate k (gb (cn g))
theorem JU {g:Gr}{k j:Nat}(a:j≠k):dm (kh g (k+1)) j=dm (kh g k) j:=by
 rw[nc,nc]
 grind
theorem JT {g:Gr}{k:Nat}{o:an}(h:dm (kh g (k+1)) k=some o):o=bP (gb (cn g)):=by
 rw[ju ag] at h
 grind
theorem yl {g:Gr}{j:Nat}{o:an}(h:dm (kh g 0) j=some o):False:=by
 rw[nc] at h;cases h
theorem Ch {α e c:Type}{f:e->Option c}{h:α->e}{k:α->c}:∀{l:List α},(∀x∈l,f (h x)=some (k x))->aM f (l.map h)=some (l.map k)
 | [],_=>rfl
 | x :: l, d => by
   have:=@Ch _ _ _ f h k l fun y g=>d y (mem_cons_of_mem _ g)
   simp[aM,d x _,this]
theorem YA {g:Gr}{S:List (List aA)}(d:ShS g S)(r:g.ins.l.length≤1000):snap (HL g S) 20 (.az 6 0 (g.ins.l.length+1) 1)=some (.ak 1 (S.map fun ws=>[fW ws])):=by
 have s:bU=1048576:=rfl;have h:(HL g S).get 6=some (.arr 1 (eh (g.ins.l.length+1) (cn g))):=rfl;have a:(eh (g.ins.l.length+1) (cn g)).length=g.ins.l.length+1:=by simp[eh]
 have i:List.take (g.ins.l.length+1) (List.drop 0 (eh (g.ins.l.length+1) (cn g)))=eh (g.ins.l.length+1) (cn g):=by rw[drop_zero];exact take_of_length_le aa
 have o:aM (aM (snap (HL g S) 19)) (eh (g.ins.l.length+1) (cn g))=some (S.map fun ws=>[fW ws]):=by
  have q:S.map (fun ws=>[fW ws])=(List.range (g.ins.l.length+1)).map fun j=>[fW (aK S j)]:=by
   refine ext_getElem (by simp[d.len]) fun j p t=>?_
   have:j<S.length:=by simpa using p
   simp[aK,getD,this]
  rw[q];refine Ch fun j e=>?_
  have e:=mem_range.1 e;have b:(HL g S).get (aV fA j)=some (bP (aK S j)):=(kb aa).trans (ju (by rw[d.len];omega))
  have:=gu (H:=HL g S) (k:=aV fA j) (n:=18) (f:=jZ) (l:=aK S j) (m:=cn g) (sz:=1) (fun _=>rfl) b rfl (eJ d aa).symm
  exact aJ this rfl
 exact qS (n:=19) h (by rw[a];omega) (by rw[i];exact o)
theorem J_ {n a k:Nat}(h:k<n):(iK n a k)[0+((k:Int)).toNat]? = some [AV.ah]:=by simp[iK,h]
theorem SH {g:Gr}{k:Nat}(a:k=g.ins.l.length+1):∀j,(Tr.fq fA bU (dm (kh g k)) (.put 7 (some (uc g)) (.put 6 (some (.arr 1 (iK (g.ins.l.length+1) (cn g) k))) (.put 0 (some (.arr 3 [g.cells])) .nil)))).get j=(HL g (kh g (g.ins.l.length+1))).get j:=by
 subst a;rw[Ka (ag)];simp
theorem YL (g:Gr)(c:cM g):c9 79 [.az 6 0 (g.ins.l.length+1) 1,.fn (.func 80) [] [.ptr 0 0 0,.ptr 7 0 0]] (HL g (kh g (g.ins.l.length+1))) 3000000 (fun a H' n=>a = .ret (.ao [])∧n=16000000∧∃S,fy g S∧H'=HL g S):=
 (YK g c ⟨_,ShS.zero,mN.zero⟩).forget (by rintro a H' n ⟨d,e,S,f,b⟩;exact⟨_,16000000,e,b,d,rfl,S,f,rfl⟩)
attribute [local irreducible] iK eh
theorem Ie (g:Gr)(d:cM g):af 37 [g.av] (fun y=>∃S,y = .ret (.ak 1 (S.map fun ws=>[fW ws]))∧fy g S):=by
 refine zw func37 ?_;have u:=g.ins.h;have z:bU=1048576:=rfl;have q:=d.eU;have a:=d.aj;have n:wr .i64 ((g.ins.l.length:Int)+1)=(g.ins.l.length:Int)+1:=aF aa aa;have b:(wr .i64 (((g.ins.l.map Ins.cells).length:Int)+1)).toNat=g.ins.l.length+1:=by rw[length_map,n];omega
 refine zg ?_
 repeat' ((refine Rq.mk (sr (by simp only[length_map];exact n) (by simp only[length_map];exact n) aa ab rfl) ?_)<;>refine zg ?_)
 refine DW.jO aC aD [1,2,3] [7,6] 2000000 fA (fun i:{i:Nat // i≤g.ins.l.length+1}=>[(12,i64 i.1),(11,i64 ((g.ins.l.length+1:Nat):Int))]) (fun i=>[(7,uc g),(6,.arr 1 (iK (g.ins.l.length+1) (cn g) i.1))]) (fun i=>dm (kh g i.1)) [] (fun i=>g.ins.l.length+2 - i.1) (⟨0,zero_le _⟩) ?_
 conv=>whnf
 refine⟨⟨_,dh.grow (k:=0) (NEW:=2000019) rfl rfl rfl rfl ?_ ?_ rfl (fun j o _ _ h=>(yl h).elim) (fun o h=>(yl h).elim) rfl⟩,fun i=>?_⟩
 . (repeat' (first|exact FC|(refine FB (x:=?_) ?_ ?_ ?_ ?_;rotate_left;exact rfl;((conv=>rhs;whnf)<;>(first|(rw[b];done)|(refine JE (qE ?_);exact rfl)|rfl));(first|(refine JF ?_;exact rfl)|rfl))))
 . (repeat' (first|exact jH|(refine jG (x:=?_) ?_ ?_ ?_ ?_ ?_ ?_;rotate_left;exact rfl;exact rfl;exact rfl;(first|(refine J8 ?_;exact b)|(refine E3 ?_ (qE ?_);(exact b);exact rfl)|rfl);(first|(refine xv ?_ ?_<;>first|rfl|omega)|rfl))))
 refine zk ?_
 repeat' ((first|(refine zp ?_ ?_<;>intro h)|refine DV.new rfl (Cq g.aj a) Di rfl ?_|refine cb (J_ aa) ?_|(refine DC.bump (m:=3000000) rfl ?_;refine DC.heap (SH (k:=i.1) aa) ?_;refine(YL g d).mono ?_;rintro _ _ _ ⟨rfl,rfl,S,s,rfl⟩))<;>refine zk ?_)
 . have w : i.1 < g.ins.l.length + 1 := aa
   refine⟨⟨i.1+1,w⟩,_,dh.grow (k:=i.1) (NEW:=2000019) rfl rfl rfl rfl ?_ ?_ rfl ?_ ?_ rfl,rfl,?_⟩
   . (exact zc)
   . (repeat' (first|exact jH|(refine jG (x:=?_) ?_ ?_ ?_ ?_ ?_ ?_;rotate_left;exact rfl;exact rfl;exact rfl;(first|(refine E3 ?_ (qE ?_);(rfl);exact rfl)|(refine JQ ?_ ?_ ?_ ?_;exact rfl;omega;(show i.1<_;omega);simp)|rfl);(first|(refine xv ?_ ?_<;>first|rfl|omega)|rfl))))
   . intro j o t f e
     have c:dm (kh g (i.1+1)) j=some o:=e;rw[JU f] at c
     (repeat' first|exact xa t c (wR c)|(refine BJ t ?_ ?_;(rfl))|(refine BK ?_ ?_;(rfl)))
   . intro o v
     obtain rfl:=JT v;exact rV (o:=bP (gb (cn g))) rfl ⟨mw,jP⟩
   . dsimp only;omega
 . generalize p : snap _ 20 _ = A
   obtain rfl:=p.symm.trans (YA s.toShS aa)
   conv=>whnf
   exact⟨S,rfl,s⟩
end Go.Ago
end
