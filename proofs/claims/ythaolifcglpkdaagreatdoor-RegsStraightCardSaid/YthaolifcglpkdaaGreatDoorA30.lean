/-
  Part 30: lemmas, each with its own conditions.
-/
import Derived.Test.YthaolifcglpkdaaGreatDoorA28
set_option maxRecDepth 100000
set_option maxHeartbeats 0
set_option linter.all false
section
namespace Go.Ago
abbrev famN:Nat:=1048576
def inm (A j:Nat):Nat:=A+j
section
variable {A A' j i k:Nat} {X Y:Prop}
theorem zxi (h:Nat.blt k A=true)(y:Y):cond (Nat.beq k (inm A j)) X Y:=by
 have h:=Nat.le_of_ble_eq_true h;have:Nat.beq k (inm A j)=false:=by
  cases e:Nat.beq k (inm A j) with
  | false=>rfl
  | true=>have:=Nat.eq_of_beq_eq_true e;unfold inm at this;omega
 rw[this];exact y
theorem zbo {K:AObj→Prop}{g:Nat→Option AObj}{t:zah}{o:AObj}(hj:j<famN)(h:g j=some o)(x:K o):gt3 (inm A j) K (.fam A famN g t):=by
 have e1:Nat.ble A (inm A j)=true:=Nat.ble_eq_true_of_le (by unfold inm;omega)
 have e2:Nat.blt (inm A j) (A+famN)=true:=Nat.ble_eq_true_of_le (by unfold inm;omega)
 simp only[gt3,e1,e2,Bool.and_self,cond_true];rw[show inm A j - A=j by unfold inm;omega,h]
 exact x
end
end Go.Ago
end
section
namespace Go.Ago
def renF (m A:Nat)(src:Nat→Nat)(l:List (Nat×Nat))(k:Nat):Nat:=bif Nat.blt k m then k else bif Nat.ble A k && Nat.blt k (A+famN) then src (k - A) else look l k
def zru (ρ:Nat→Nat)(nl:Nat)(H:zah):List (Nat×AObj)→Prop
 | []=>True
 | (k,o)::l=>(Nat.blt k nl=true∧gt3 (ρ k) (fun x=>x=o.ren ρ∧o.lt nl) H)∧zru ρ nl H l
theorem yb4 {ρ:Nat→Nat}{nl:Nat}{H:zah}:∀{l:List (Nat×AObj)},zru ρ nl H l→∀k o,(k,o)∈l→k<nl∧H.get (ρ k)=some (o.ren ρ)∧o.lt nl
 | (k, o) :: l, h, k', o', hm => by
   rcases List.mem_cons.1 hm with e|hm
   · cases e
     obtain⟨h0,h1⟩:=h.1;obtain⟨x,hx,rfl,h2⟩:=zmh h1;exact⟨by simpa using h0,hx,h2⟩
   · exact yb4 h.2 k' o' hm
structure FamW (m nl A:Nat)(src:Nat→Nat)(l:List (Nat×Nat))(S:St)(sl:List (Nat×AV))(hl:List (Nat×AObj))(g:Nat→Option AObj):Prop where
 mnl:m≤nl
 lo:m≤A∨(A+famN≤m∧∀j,src j=inm A j)
 hi:A+famN≤nl
 slots:chkS (renF m A src l) nl S sl
 heap:zru (renF m A src l) nl S.heap hl
 inj:chkI (renF m A src l) (hl.map (·.1))=true
 rows:∀j o,j<famN→g j=some o→gt3 (src j) (fun x=>x=o.ren (renF m A src l)∧o.lt nl) S.heap
 rinj:∀i j o o',i<famN→j<famN→g i=some o→g j=some o'→src i=src j→i=j
 apart:∀j o,j<famN→g j=some o→∀p∈hl,src j≠renF m A src l p.1
section
variable {P:Program} {E:Env} {rr:Bool}
theorem FamW.wk {m nl nx A:Nat}{src:Nat→Nat}{l:List (Nat×Nat)}{S:St}{sl:List (Nat×AV)}{hl:List (Nat×AObj)}{g:Nat→Option AObj}(h:FamW m nl A src l S sl hl g) :
 WkM P E m (S.at_ nx) ((⟨ofS sl,S.nsl,.fam A famN g (ofH hl),0⟩:St).at_ nl):=by
 have hm:m≤nl:=h.mnl;have hfam:∀j,j<famN→renF m A src l (A+j)=src j:=by
  intro j hj;rcases h.lo with hlo|⟨hlo,hsrc⟩
  case inr=>
   rw[hsrc];unfold renF;rw[show Nat.blt (A+j) m=true from Nat.ble_eq_true_of_le (by omega)]
   rfl
  have h1:Nat.blt (A+j) m=false:=by
   cases e:Nat.blt (A+j) m with
   | false=>rfl
   | true=>have:=Nat.le_of_ble_eq_true e;omega
  have h2:(Nat.ble A (A+j) && Nat.blt (A+j) (A+famN))=true:=by
   rw[Nat.ble_eq_true_of_le (Nat.le_add_right _ _),show Nat.blt (A+j) (A+famN)=true from Nat.ble_eq_true_of_le (by omega)];rfl
  unfold renF;rw[h1,h2];simp
 have hget:∀k o,(Tr.fam A famN g (ofH hl)).get k=some o→(∃j,k=A+j∧j<famN∧g j=some o)∨((k,o)∈hl):=by
  intro k o e;rw[Tr.get] at e;cases hb:Nat.ble A k && Nat.blt k (A+famN) with
  | true =>
    rw[hb] at e;simp only[Bool.and_eq_true] at hb;have h1:=Nat.le_of_ble_eq_true hb.1;have h2:=Nat.le_of_ble_eq_true hb.2;exact .inl ⟨k - A,by omega,by omega,e⟩
  | false=>rw[hb] at e;exact .inr (zia e)
 refine WkM.ren (renF m A src l) (fun k hk=>?_) hm rfl (fun t y e=>yb2 h.slots t y (zjw e)) (fun k o e=>?_) (fun k k' o o' e e' he=>?_)
 · unfold renF
   rw[show Nat.blt k m=true from Nat.ble_eq_true_of_le hk]
   rfl
 · rcases hget k o e with ⟨j, rfl, hj, hg⟩ | hmem
   · obtain ⟨x, hx, rfl, h2⟩ := zmh (h.rows j o hj hg)
     exact⟨by have:=h.hi;omega,by rw[hfam j hj];exact hx,h2⟩
   · exact yb4 h.heap k o hmem
 · rcases hget k o e with ⟨j, rfl, hj, hg⟩ | hmem <;> rcases hget k' o' e' with ⟨j', rfl, hj', hg'⟩ | hmem'
   · rw [hfam j hj, hfam j' hj'] at he
     rw[h.rinj j j' o o' hj hj' hg hg' he]
   · rw [hfam j hj] at he
     exact absurd he (h.apart j o hj hg _ hmem')
   · rw [hfam j' hj'] at he
     exact absurd he.symm (h.apart j' o' hj' hg' _ hmem)
   · exact yb3 h.inj k (List.mem_map.2 ⟨_,hmem,rfl⟩) k' (List.mem_map.2 ⟨_,hmem',rfl⟩) he
theorem zcr (hE:EnvOK P E)(hmix:P.follows .mixedOrders=true){α:Type}(keep ovr:List Nat)(cn A:Nat)(vars:α→List (Nat×AV))(hp:α→List (Nat×AObj))(fam:α→Nat→Option AObj)(roots:List (Nat×Root))(μ:α→Nat)(x0:α)
 {body:Code}{K:AX→Nat→St→Prop}{nx:Nat}{S:St}
 (h:zni S.heap ovr fun hl=>zmc S keep fun kl=>(∃src,FamW nx (nx+cn) A src (zqz S roots) S (vars x0++kl) (hp x0++hl) (fam x0)) ∧
   ∀ x, zen (vars x) fun vl => appK vl kl fun sl => ofSK sl fun slT => appK (hp x) hl fun hl' => ofHK hl' fun hT => daw3 P E rr body (fun e nx' S'=>match e with
    | .normal=>∃x' src,FamW nx (nx+cn) A src (zqz S' roots) S' (vars x'++kl) (hp x'++hl) (fam x')∧S'.nsl=S.nsl∧μ x'<μ x
    | e=>K e nx' S') (nx+cn) ⟨slT,S.nsl,.fam A famN (fam x) hT,0⟩):DW P E rr nx (.loop body) K S:=by
 obtain⟨hl,h⟩:=zgr h;obtain⟨kl,⟨src,h0⟩,h⟩:=zjz h;have hm:nx≤nx+cn:=Nat.le_add_right _ _;refine DW.loop (fun x=>⟨ofS (vars x++kl),S.nsl,.fam A famN (fam x) (ofH (hp x++hl)),0⟩) (nx+cn) μ x0 hm h0.wk fun x=>?_
 have:=zn2 (k:=fun hT=>daw3 P E rr body _ _ ⟨_,_,.fam A famN (fam x) hT,0⟩) (zcq (zkb (zcq (zc1 (h x)))))
 refine(zbq hE hmix body this).mono fun e nx' S' he=>?_
 cases e with
 | normal =>
   obtain⟨x',src,h1,h2,h3⟩:=he;refine⟨x',?_,h3⟩;have:=h1.wk (P:=P) (E:=E) (nx:=nx');rw[h2] at this;exact this
 | _=>exact he
end
end Go.Ago
end
section
namespace Go.Ago
section
variable {A j k:Nat}
theorem zol (hj:j<famN)(h:Nat.ble (A+famN) k=true):Nat.beq (inm A j) k=false:=by
 have h:=Nat.le_of_ble_eq_true h;cases e:Nat.beq (inm A j) k with
 | false=>rfl
 | true=>have:=Nat.eq_of_beq_eq_true e;unfold inm at this;omega
theorem zx6 (h:Nat.blt k A=true):Nat.beq (inm A j) k=false:=by
 have h:=Nat.le_of_ble_eq_true h;cases e:Nat.beq (inm A j) k with
 | false=>rfl
 | true=>have:=Nat.eq_of_beq_eq_true e;unfold inm at this;omega
theorem zdt (hj:j<famN)(h:Nat.ble (A+famN) k=true):k≠inm A j:=by
 have h:=Nat.le_of_ble_eq_true h;unfold inm;omega
theorem ya1 {v:Option AObj}{t:zah}{o:Option AObj}(hj:j<famN)(hk:Nat.ble (A+famN) k=true)(h:t.get (inm A j)=o):(Tr.put k v t).get (inm A j)=o:=by
 rw[Tr.get,zol hj hk];exact h
theorem zdx {g:Nat→Option AObj}{t:zah}(hj:j<famN):(Tr.fam A famN g t).get (inm A j)=g j:=by
 have e1:Nat.ble A (inm A j)=true:=Nat.ble_eq_true_of_le (by unfold inm;omega)
 have e2:Nat.blt (inm A j) (A+famN)=true:=Nat.ble_eq_true_of_le (by unfold inm;omega)
 rw[Tr.get,e1,e2];simp only[Bool.and_self,cond_true];rw[show inm A j - A=j by unfold inm;omega]
theorem zeg {K:AObj→Prop}{v:Option AObj}{t:zah}(hj:j<famN)(hk:Nat.ble (A+famN) k=true)(h:gt3 (inm A j) K t):gt3 (inm A j) K (.put k v t):=by
 simp only[gt3,zol hj hk,cond_false];exact h
theorem yay {K:AObj→Prop}{v:Option AObj}{t:zah}(hk:Nat.blt k A=true)(h:gt3 (inm A j) K t):gt3 (inm A j) K (.put k v t):=by
 simp only[gt3,zx6 hk,cond_false];exact h
theorem zvw {K:AObj→Prop}{o:AObj}{t:zah}(h:K o):gt3 (inm A j) K (.put (inm A j) (some o) t):=by
 simp only[gt3,show Nat.beq (inm A j) (inm A j)=true from Nat.beq_refl _,cond_true];exact h
theorem zvx {i:Nat}{K:AObj→Prop}{v:Option AObj}{t:zah}(hij:j≠i)(h:gt3 (inm A j) K t):gt3 (inm A j) K (.put (inm A i) v t):=by
 have:Nat.beq (inm A j) (inm A i)=false:=by
  cases e:Nat.beq (inm A j) (inm A i) with
  | false=>rfl
  | true=>have:=Nat.eq_of_beq_eq_true e;unfold inm at this;omega
 simp only[gt3,this,cond_false];exact h
end
theorem FamW.inner {m nl A:Nat}{l:List (Nat×Nat)}{S:St}{sl:List (Nat×AV)}{hl:List (Nat×AObj)}{g:Nat→Option AObj}(hm:Nat.ble m nl=true)(hA:Nat.ble (A+famN) m=true)
 (slots:chkS (renF m A (inm A) l) nl S sl)(heap:zru (renF m A (inm A) l) nl S.heap hl)(inj:chkI (renF m A (inm A) l) (hl.map (·.1))=true)
 (rows:∀j o,j<famN→g j=some o→gt3 (inm A j) (fun x=>x=o.ren (renF m A (inm A) l)∧o.lt nl) S.heap)
 (apart:(hl.all fun p=>Nat.blt p.1 m && (Nat.blt p.1 A || Nat.ble (A+famN) p.1))=true):FamW m nl A (inm A) l S sl hl g:=by
 have hm':=Nat.le_of_ble_eq_true hm;have hA':=Nat.le_of_ble_eq_true hA;refine⟨hm',.inr ⟨hA',fun _=>rfl⟩,by omega,slots,heap,inj,rows,fun i j o o' hi hj _ _ e=>by unfold inm at e;omega,fun j o hj _ p hp e=>?_⟩
 have:=List.all_eq_true.1 apart p hp;simp only[Bool.and_eq_true,Bool.or_eq_true] at this;obtain⟨h1,h2⟩:=this;unfold renF at e;rw[h1] at e;simp only[cond_true] at e;rcases h2 with h2|h2
 · have:=Nat.le_of_ble_eq_true h2;unfold inm at e;omega
 · have:=Nat.le_of_ble_eq_true h2;unfold inm at e;omega
end Go.Ago
namespace Go.Ago
theorem zax {m A:Nat}{src:Nat→Nat}{l:List (Nat×Nat)}{k:Nat}(h:Nat.blt k m=true):renF m A src l k=k:=by unfold renF;rw[h];rfl
end Go.Ago
namespace Go.Ago
theorem zb5 {n k i m s:Nat}(h:Nat.blt k n=true):(AV.slc k i m s).l2 n=true:=h
theorem zcl {n k i o:Nat}(h:Nat.blt k n=true):(AV.ptr k i o).l2 n=true:=h
end Go.Ago
namespace Go.Ago
section
variable {m nl A:Nat} {src:Nat→Nat} {l:List (Nat×Nat)} {ρ:Nat→Nat} {S:St}
theorem zbe:chkS ρ nl S []:=True.intro
theorem za5 {t:Nat}{x y:AV}{r:List (Nat×AV)}(h:S.slots.get t=some x)(hx:x=y.r2 ρ)(hy:y.l2 nl=true)(hr:chkS ρ nl S r):chkS ρ nl S ((t,y)::r):=by
 refine⟨?_,hr⟩;rw[h];exact⟨hx,hy⟩
theorem za6 {H:zah}:zru ρ nl H []:=True.intro
theorem za0 {H:zah}{k:Nat}{x o:AObj}{r:List (Nat×AObj)}(h1:Nat.blt k nl=true)(h2:Nat.blt k m=true)(h:H.get k=some x)(hx:x=o.ren (renF m A src l))(hy:o.lt nl)(hr:zru (renF m A src l) nl H r):zru (renF m A src l) nl H ((k,o)::r):=by
 refine⟨⟨h1,?_⟩,hr⟩;rw[zax h2];exact zn9 h ⟨hx,hy⟩
end
end Go.Ago
namespace Go.Ago
theorem zdq {k k' i n s:Nat}(h:k'=k):AV.slc k i n s=AV.slc k' i n s:=by subst h;rfl
theorem zec {k k' i o:Nat}(h:k'=k):AV.ptr k i o=AV.ptr k' i o:=by subst h;rfl
end Go.Ago
namespace Go.Ago
theorem FamW.grow {m nl A k NEW:Nat}{l:List (Nat×Nat)}{S:St}{sl:List (Nat×AV)}{hl:List (Nat×AObj)}{g:Nat→Option AObj}(hm:Nat.ble m nl=true)(hA:Nat.ble m A=true)(hi:Nat.ble (A+famN) nl=true)(hN:Nat.ble (A+famN) NEW=true)
 (slots:chkS (renF m A (fun j=>bif Nat.beq j k then NEW else inm A j) l) nl S sl)(heap:zru (renF m A (fun j=>bif Nat.beq j k then NEW else inm A j) l) nl S.heap hl)(inj:chkI (renF m A (fun j=>bif Nat.beq j k then NEW else inm A j) l) (hl.map (·.1))=true)
 (rows:∀j o,j<famN→j≠k→g j=some o→gt3 (inm A j) (fun x=>x=o.ren (renF m A (fun j=>bif Nat.beq j k then NEW else inm A j) l)∧o.lt nl) S.heap)
 (rowk:∀o,g k=some o→gt3 NEW (fun x=>x=o.ren (renF m A (fun j=>bif Nat.beq j k then NEW else inm A j) l)∧o.lt nl) S.heap)
 (apart:(hl.all fun p=>Nat.blt p.1 m)=true):FamW m nl A (fun j=>bif Nat.beq j k then NEW else inm A j) l S sl hl g:=by
 have hm':=Nat.le_of_ble_eq_true hm;have hA':=Nat.le_of_ble_eq_true hA;have hi':=Nat.le_of_ble_eq_true hi;have hN':=Nat.le_of_ble_eq_true hN;have e1:Nat.beq k k=true:=Nat.beq_refl k;have e2:∀j,j≠k→Nat.beq j k=false:=fun j hj=>by
  cases e:Nat.beq j k with
  | false=>rfl
  | true=>exact absurd (Nat.eq_of_beq_eq_true e) hj
 refine⟨hm',.inl hA',hi',slots,heap,inj,fun j o hj hg=>?_,fun i j o o' h1 h2 _ _ e=>?_,fun j o hj _ p hp e=>?_⟩
 · by_cases hjk : j = k
   · subst hjk;simp only[e1,cond_true];exact rowk o hg
   · simp only[e2 j hjk,cond_false];exact rows j o hj hjk hg
 · by_cases hik : i = k <;> by_cases hjk : j = k
   · rw[hik,hjk]
   · subst hik;simp only[e1,e2 j hjk,cond_true,cond_false] at e;unfold inm at e;omega
   · subst hjk;simp only[e1,e2 i hik,cond_true,cond_false] at e;unfold inm at e;omega
   · simp only[e2 i hik,e2 j hjk,cond_false] at e;unfold inm at e;omega
 · have h3 := List.all_eq_true.1 apart p hp
   have h4:=Nat.le_of_ble_eq_true h3;rw[zax h3] at e
   by_cases hjk:j=k
   · subst hjk;simp only[e1,cond_true] at e;omega
   · simp only[e2 j hjk,cond_false] at e;unfold inm at e;omega
end Go.Ago
namespace Go.Ago
theorem ygq {A j:Nat}:inm A j=A+j:=rfl
theorem zky {H:zah}{k i len sz n:Nat}{es r:List (List AV)}(hH:H.get k=some (.arr sz es))(h4:i+len≤es.length)(h5:mapO (mapO (snap H n)) ((es.drop i).take len)=some r):snap H (n+1) (.slc k i len sz)=some (.rsl sz r):=by
 have h4':(sz == sz && Nat.ble (i+len) es.length)=true:=by simp[h4]
 simp only[snap,hH,h4',h5]
end Go.Ago
end
namespace Go.Ago
open Go.Proofs
attribute [local irreducible] ltI leI eqI eqS shrI wr inB mmI comp DC DP DW DV
theorem yne (c:Ck)(b u n o:Int)(p s:BL (List AV))(t:Ty):DPR 228 [c.av,.agg [i64 b,i64 u,i64 n,i64 o,.rsl 11 p.l,.rsl 14 s.l,i64 t.kind,i64 t.p,i64 t.q,.bool t.vary,.str t.pic]] (fun ae=>∃(m:Int) (x:Bool),ae = .ret (.tup [i64 m,.bool x])):=by
 refine zaf eRg zae Tryz.func228 rfl (by decide) rfl rfl ?_
 have hl:=c.p.procs.h;have hl4:=c.p.ctl.h
 conv=>whnf
 repeat' ((first|refine Rq.mk (by(first|rfl|((try simp only[rz]);omega))) ?_|refine Br.split (fun h=>?_) (fun h=>?_)<;>(try simp only[bz] at h)|refine zag (fun h=>?_) (fun h=>?_)<;>(try simp only[bz] at h)|refine Ok3.mk _ (za2 (by omega)) ?_|(refine zaa rfl (yof c _) ?_;rintro _ (⟨q,rfl⟩|rfl))|(refine zar rfl (zj7 _ _ (by simp only[List.length_map];omega)) ?_;rintro _ (⟨rfl,hb1⟩|⟨rfl,hb1⟩)<;>simp only[List.length_map] at hb1<;>refine⟨_,rfl,?_⟩)|(refine zaa rfl (yf5 _ _) ?_;rintro _ ⟨b9,rfl,hb9⟩)|refine And.intro (a:=zaw _=true) (by kernel_rfl) (LzK.e ?_))<;>conv=>whnf)
 all_goals exact⟨_,_,rfl⟩
theorem yga (p:Prg)(hp:zd1 p.procs.l)(a b:Int)(ha:a<p.procs.l.length):DPR 251 [p.av,i64 a,i64 b] (fun ae=>(ae = .ret (.bool true)∧1≤b∧b<p.procs.l.length)∨ae = .ret (.bool false)):=by
 refine(ygb p hp a b ha).mono ?_
 rintro _ ⟨x,rfl,hx⟩
 cases x with
 | true=>exact .inl ⟨rfl,hx rfl⟩
 | false=>exact .inr rfl
end Go.Ago
namespace Go.Ago
open Go.Proofs
attribute [local irreducible] ltI leI eqI eqS shrI wr inB mmI comp DC DP DW DV DY
theorem zf0 {d:Nat}{l:List (List AV)}{n:Int}(hl:∀x∈l,ExD d x)(h:n.toNat<l.length):∃(op:Int) (t:Ty) (v:Vl) (m:Int) (l1 r1:BL (List AV)),
 l[n.toNat]? = some [i64 op,i64 t.kind,i64 t.p,i64 t.q,.bool t.vary,.str t.pic,i64 v.n,.str v.s,i64 m,.rsl 11 l1.l,.rsl 11 r1.l]∧ExD d [i64 op,i64 t.kind,i64 t.p,i64 t.q,.bool t.vary,.str t.pic,i64 v.n,.str v.s,i64 m,.rsl 11 l1.l,.rsl 11 r1.l]:=by
 have hm:=hl _ (List.getElem_mem h);cases d with
 | zero=>exact hm.elim
 | succ d =>
   obtain⟨op,t,v,m,l1,r1,he,h1,h2⟩:=hm;exact⟨op,t,v,m,l1,r1,by rw[List.getElem?_eq_getElem h,he],op,t,v,m,l1,r1,rfl,h1,h2⟩
theorem zo9 {d:Nat}{l:List (List AV)}{n:Int}(hl:∀x∈l,SbP (ExD d) x)(h:n.toNat<l.length):∃(op:Int) (t:Ty) (v:Vl) (m:Int) (l1 r1:BL (List AV)) (lo hi st:Int),
 l[n.toNat]? = some [i64 op,i64 t.kind,i64 t.p,i64 t.q,.bool t.vary,.str t.pic,i64 v.n,.str v.s,i64 m,.rsl 11 l1.l,.rsl 11 r1.l,i64 lo,i64 hi,i64 st]∧ExD d [i64 op,i64 t.kind,i64 t.p,i64 t.q,.bool t.vary,.str t.pic,i64 v.n,.str v.s,i64 m,.rsl 11 l1.l,.rsl 11 r1.l]:=by
 obtain⟨e,lo,hi,st,he,hx⟩:=hl _ (List.getElem_mem h);cases d with
 | zero=>exact hx.elim
 | succ d =>
   obtain⟨op,t,v,m,l1,r1,hc,h1,h2⟩:=hx;exact⟨op,t,v,m,l1,r1,lo,hi,st,by rw[List.getElem?_eq_getElem h,he,hc];rfl,op,t,v,m,l1,r1,rfl,h1,h2⟩
theorem zqa:∀(d:Nat) (cs:List AV),ExD d cs→∀n:Int,DPR 229 [.agg cs,i64 n] (retB fun _=>True)
 | 0,_,h,_=>h.elim
 | d + 1, cs, ⟨op, t, v, m, l, r, hcs, hl, hr⟩, n => by
   subst hcs;have ih:=zqa d;refine zaf eRg zae Tryz.func229 rfl (by decide) rfl rfl ?_
   have hll:=l.h;have hrl:=r.h
   conv=>whnf
   repeat' ((first|refine Br.split (fun h=>?_) (fun h=>?_)<;>(try simp only[bz] at h)|(refine zaa rfl (zxz op t v m l r) ?_;rintro _ rfl)|refine DW.range [3,4] ?_|refine zay eRg zae Tryz.func327 rfl (by decide) rfl rfl ?_)<;>conv=>whnf)
   all_goals first|exact⟨_,rfl,trivial⟩|skip
   refine zai eRg zae [2,3,9,10] [] 0 (fun i:Nat=>[(11,i64 i)]) (fun _=>[]) [] (fun i=>r.l.length+1 - i) (0) ?_
   conv=>whnf
   refine⟨?_,fun i=>?_⟩
   · conv => whnf
     (repeat' first|exact True.intro|rfl|apply And.intro )
   conv=>whnf
   repeat' ((first|refine Rq.mk (by(first|rfl|((try simp only[rz]);omega))) ?_|refine Br.split (fun h=>?_) (fun h=>?_)<;>(try simp only[bz] at h)|(refine zaa rfl (yi0 b u m1 o p s t1) ?_;rintro _ rfl)|refine DW.range [3,4] ?_|refine zay eRg zae Tryz.func344 rfl (by decide) rfl rfl ?_|(obtain⟨b,u,m1,o,p,s,t1,he,hp,hs⟩:=zl2 hr (n:=(i:Int)) (by omega);refine Ok3.mk _ he ?_;clear he))<;>conv=>whnf)
   · have hpl := p.h; have hsl := s.h
     refine zai eRg zae [0,1,8,9] [] 0 (fun j:Nat=>[(10,i64 j)]) (fun _=>[]) [] (fun j=>p.l.length+1 - j) (0) ?_
     conv=>whnf
     refine⟨?_,fun j=>?_⟩
     · conv => whnf
       (repeat' first|exact True.intro|rfl|apply And.intro )
     conv=>whnf
     repeat' ((first|refine Rq.mk (by(first|rfl|((try simp only[rz]);omega))) ?_|refine Br.split (fun h=>?_) (fun h=>?_)<;>(try simp only[bz] at h)|refine zag (fun h=>?_) (fun h=>?_)<;>(try simp only[bz] at h)|(refine zaa rfl (ih _ hx _) ?_;rintro _ ⟨b0,rfl,-⟩)|refine zj6 eRg zae ?_|(obtain⟨op1,t2,v1,m2,l2,r2,he,hx⟩:=zf0 hp (n:=(j:Int)) (by omega);refine Ok3.mk _ he ?_;clear he))<;>conv=>whnf)
     all_goals first|exact⟨_,rfl,trivial⟩|(refine⟨j+1,?_,rfl,?_⟩<;>first|((conv=>whnf);(repeat' first|exact True.intro|rfl|apply And.intro|(refine cw ?_ ?_ ?_<;>(try dsimp only)<;>omega) );done)|((try simp only[List.length_map] at *)<;>omega))|skip
     refine zai eRg zae [0,20,21] [] 0 (fun k:Nat=>[(22,i64 k)]) (fun _=>[]) [] (fun k=>s.l.length+1 - k) (0) ?_
     conv=>whnf
     refine⟨?_,fun k=>?_⟩
     · conv => whnf
       (repeat' first|exact True.intro|rfl|apply And.intro )
     conv=>whnf
     repeat' ((first|refine Rq.mk (by(first|rfl|((try simp only[rz]);omega))) ?_|refine Br.split (fun h=>?_) (fun h=>?_)<;>(try simp only[bz] at h)|refine zag (fun h=>?_) (fun h=>?_)<;>(try simp only[bz] at h)|(refine zaa rfl (ih _ hx _) ?_;rintro _ ⟨b0,rfl,-⟩)|refine zj6 eRg zae ?_|(obtain⟨op1,t2,v1,m2,l2,r2,lo,hi,st,he,hx⟩:=zo9 hs (n:=(k:Int)) (by omega);refine Ok3.mk _ he ?_;clear he))<;>conv=>whnf)
     all_goals first|exact⟨_,rfl,trivial⟩|(refine⟨k+1,?_,rfl,?_⟩<;>first|((conv=>whnf);(repeat' first|exact True.intro|rfl|apply And.intro|(refine cw ?_ ?_ ?_<;>(try dsimp only)<;>omega) );done)|((try simp only[List.length_map] at *)<;>omega))|(refine⟨i+1,?_,rfl,?_⟩<;>first|((conv=>whnf);(repeat' first|exact True.intro|rfl|apply And.intro|(refine cw ?_ ?_ ?_<;>(try dsimp only)<;>omega) );done)|((try simp only[List.length_map] at *)<;>omega))
   · refine zai eRg zae [3, 23, 24] [] 0 (fun j : Nat => [(25, i64 j)]) (fun _ => []) [] (fun j => l.l.length + 1 - j) (0) ?_
     conv=>whnf
     refine⟨?_,fun j=>?_⟩
     · conv => whnf
       (repeat' first|exact True.intro|rfl|apply And.intro )
     conv=>whnf
     repeat' ((first|refine Rq.mk (by(first|rfl|((try simp only[rz]);omega))) ?_|refine Br.split (fun h=>?_) (fun h=>?_)<;>(try simp only[bz] at h)|refine zag (fun h=>?_) (fun h=>?_)<;>(try simp only[bz] at h)|(refine zaa rfl (ih _ hx _) ?_;rintro _ ⟨b0,rfl,-⟩)|refine zj6 eRg zae ?_|(obtain⟨op1,t2,v1,m2,l2,r2,he,hx⟩:=zf0 hl (n:=(j:Int)) (by omega);refine Ok3.mk _ he ?_;clear he))<;>conv=>whnf)
     all_goals first|exact⟨_,rfl,trivial⟩|(refine⟨j+1,?_,rfl,?_⟩<;>first|((conv=>whnf);(repeat' first|exact True.intro|rfl|apply And.intro|(refine cw ?_ ?_ ?_<;>(try dsimp only)<;>omega) );done)|((try simp only[List.length_map] at *)<;>omega))
structure NumOK (c:Ck)(op n:Int)(l r:BL (List AV)):Prop where
 hop:1≤op∧op≤31
 hr:op=2∨op=3∨op=30∨op=31→r.l.length=1
 hl:4≤op∧op≤24→1≤l.l.length∧l.l.length≤3
 hl1:op=30∨op=31→l.l.length=1
 call:op=25→∃h:n.toNat<c.p.procs.l.length,1≤n∧(c.p.procs.l[n.toNat]'h).rets.l.length=1
theorem zz4 (c:Ck)(op n:Int)(t:Ty)(v:Vl)(l r:BL (List AV)):DPR 230 [c.av,.agg [i64 op,i64 t.kind,i64 t.p,i64 t.q,.bool t.vary,.str t.pic,i64 v.n,.str v.s,i64 n,.rsl 11 l.l,.rsl 11 r.l]] (fun ae=>(ae = .ret (.bool true)∧NumOK c op n l r)∨ae = .ret (.bool false)):=by
 refine zaf eRg zae Tryz.func230 rfl (by decide) rfl rfl ?_
 have hl:=c.p.procs.h;have hl4:=c.p.ctl.h;have hpr:=c.hproc;have hll:=l.h;have hrl:=r.h
 conv=>whnf
 repeat' ((first|refine Rq.mk (by(first|rfl|((try simp only[rz]);omega))) ?_|refine Br.split (fun h=>?_) (fun h=>?_)<;>(try simp only[bz] at h)<;>try (exfalso;omega)|refine zag (fun h=>?_) (fun h=>?_)<;>(try simp only[bz] at h)|refine Ok3.mk _ (za2 (by omega)) ?_|(refine zaa rfl (zg5 _ _ _) ?_;rintro _ (⟨rfl,hb2⟩|⟨rfl,hb2⟩))|(refine zar rfl (zg5 _ _ _) ?_;rintro _ (⟨rfl,hb2⟩|⟨rfl,hb2⟩)<;>refine⟨_,rfl,?_⟩)|(refine zar rfl (yga _ c.hp _ _ hpr.2) ?_;rintro _ (⟨rfl,hb3⟩|rfl)<;>refine⟨_,rfl,?_⟩)|(refine zar rfl (zj7 _ _ (by simp only[List.length_map];omega)) ?_;rintro _ (⟨rfl,hb1⟩|⟨rfl,hb1⟩)<;>simp only[List.length_map] at hb1<;>refine⟨_,rfl,?_⟩)|refine And.intro (a:=zaw _=true) (by kernel_rfl) (LzK.e ?_)|(obtain⟨a,b,he,ha,hb,hf1,hf2,hf3,hf4⟩:=zrs op (by omega);refine Ok3.mk _ he ?_;clear he)|refine Ok3.mk _ rfl ?_)<;>conv=>whnf)
 all_goals first|exact .inr rfl|exact .inl ⟨rfl,⟨by omega,by omega,by omega,by omega,fun _=>⟨by omega,by omega,by omega⟩⟩⟩
theorem yhk {d:Nat}(c:Ck)(op n:Int)(t:Ty)(v:Vl)(l r:BL (List AV))(hn:NumOK c op n l r)(hl:∀x∈l.l,ExD d x)(hr:∀x∈r.l,RfP (ExD d) x):DPR 231 [c.av,.agg [i64 op,i64 t.kind,i64 t.p,i64 t.q,.bool t.vary,.str t.pic,i64 v.n,.str v.s,i64 n,.rsl 11 l.l,.rsl 11 r.l]] (retB fun _=>True):=by
 refine zaf eRg zae Tryz.func231 rfl (by decide) rfl rfl ?_
 have hop:=hn.hop;have hr1:=hn.hr;have hl1:=hn.hl;have hl2:=hn.hl1;have hc0:op=25→1≤n∧n<c.p.procs.l.length:=fun h=>by obtain⟨h1,h2,_⟩:=hn.call h;omega
 have hcl:=c.p.procs.h;have hll:=l.h;have hrl:=r.h
 conv=>whnf
 repeat' ((first|refine Rq.mk (b:=chk3 _ _ _ _ _ _) (by kernel_rfl) ?_|refine Rq.mk (by(first|rfl|((try simp only[rz]);omega))) ?_|refine Br.split (fun h=>?_) (fun h=>?_)<;>(try simp only[bz] at h)|refine zag (fun h=>?_) (fun h=>?_)<;>(try simp only[bz] at h)|refine Ok3.mk _ (za2 (by omega)) ?_|(refine zaa rfl (zg2 t v) ?_;rintro _ ⟨e1,rfl,he1⟩)|(refine zar rfl (zzk) ?_;rintro _ rfl<;>refine⟨_,rfl,?_⟩)|(refine zar rfl (ycs _) ?_;rintro _ rfl<;>refine⟨_,rfl,?_⟩)|(refine zar rfl (zyj _) ?_;rintro _ rfl<;>refine⟨_,rfl,?_⟩)|(refine zar rfl (ygh l hl _) ?_;rintro _ ⟨b1,rfl,hb1⟩<;>refine⟨_,rfl,?_⟩)|(refine zar rfl (yhj l hl (by omega)) ?_;rintro _ ⟨ts,rfl⟩<;>refine⟨_,rfl,?_⟩)|(refine zar rfl (zrx _ _ ts) ?_;rintro _ ⟨t9,b9,rfl⟩<;>refine⟨_,rfl,?_⟩)|refine And.intro (a:=zaw _=true) (by kernel_rfl) (LzK.e ?_)|(obtain⟨op1,t1,v1,m1,l1,r1,he,hx⟩:=zf0 hl (n:=0) (by have:=hn.hl;have:=hn.hl1;omega);refine Ok3.mk _ he ?_;clear he)|(obtain⟨rb,ru,rm,ro,rp,rs,t2,he,hp1,hs1⟩:=zl2 hr (n:=0) (by have:=hn.hr;omega);refine Ok3.mk _ he ?_;clear he)|(obtain⟨hc1,hc2,hc3⟩:=hn.call (by omega);refine Rq.mk (by simp only[zhw,List.length_map];omega) ?_))<;>conv=>whnf)
 all_goals exact⟨_,rfl,trivial⟩
theorem ynh {d:Nat}(c:Ck)(he0:∀cs,ExD d cs→DPR 183 [c.av,.agg cs] (retU True))(b u n o:Int)(p s:BL (List AV))(t:Ty)(hp:∀x∈p.l,ExD d x)(hs:∀x∈s.l,SbP (ExD d) x):DPR 182 [c.av,.agg [i64 b,i64 u,i64 n,i64 o,.rsl 11 p.l,.rsl 14 s.l,i64 t.kind,i64 t.p,i64 t.q,.bool t.vary,.str t.pic]] (retU True):=by
 refine zaf eRg zae Tryz.func182 rfl (by decide) rfl rfl ?_
 have hpl:=p.h;have hsl:=s.h
 conv=>whnf
 repeat' ((first|refine Rq.mk (by(first|rfl|((try simp only[rz]);omega))) ?_|refine Br.split (fun h=>?_) (fun h=>?_)<;>(try simp only[bz] at h)<;>try (exfalso;omega)|refine zag (fun h=>?_) (fun h=>?_)<;>(try simp only[bz] at h)|(refine zaa rfl (ze3 _) ?_;rintro _ rfl)|(refine zaa rfl (ze4 _) ?_;rintro _ rfl)|(refine zaa rfl (zcy t) ?_;rintro _ rfl)|(refine zaa rfl (zcz _ _ _) ?_;rintro _ ⟨b1,rfl,hb1⟩)|(refine zaa rfl (yne c b u n o p s t) ?_;rintro _ ⟨m9,x9,rfl⟩)|(refine zaa rfl (yc1 t) ?_;rintro _ ⟨al,rfl,hal⟩)|(refine zar rfl (zy0 t) ?_;rintro _ ⟨sz,rfl,hsz⟩<;>refine⟨_,rfl,?_⟩)|refine And.intro (a:=zaw _=true) (by kernel_rfl) (LzK.e ?_))<;>conv=>whnf)
 all_goals first|exact .inr ⟨_,rfl,by decide⟩|skip
 all_goals
  refine zai eRg zae [0,3,4,6,7,97,98] [] 0 (fun i:Nat×Int=>[(99,i64 i.1),(8,i64 i.2)]) (fun _=>[]) [] (fun i=>s.l.length+1 - i.1) ((0,wr .i64 (o+sz))) ?_
  conv=>whnf
  refine⟨?_,fun i=>?_⟩
  · conv => whnf
    (repeat' first|exact True.intro|rfl|apply And.intro )
  conv=>whnf
  repeat' ((first|refine Rq.mk (by(first|rfl|((try simp only[rz]);omega))) ?_|refine Br.split (fun h=>?_) (fun h=>?_)<;>(try simp only[bz] at h)|refine zag (fun h=>?_) (fun h=>?_)<;>(try simp only[bz] at h)|(refine zaa rfl (ze3 _) ?_;rintro _ rfl)|(refine zaa rfl (ze4 _) ?_;rintro _ rfl)|(refine zaa rfl (zcz _ _ _) ?_;rintro _ ⟨b1,rfl,hb1⟩)|(obtain⟨op1,t2,v1,m2,l2,r2,lo,hi,st,he,hx⟩:=zo9 hs (n:=(i.1:Int)) (by omega);refine Ok3.mk _ he ?_;clear he))<;>conv=>whnf)
  all_goals first|exact .inr ⟨_,rfl,by decide⟩|(refine⟨(i.1+1,_),(by(conv=>whnf);(repeat' first|exact True.intro|rfl|apply And.intro|(refine cw ?_ ?_ ?_<;>(try dsimp only)<;>omega) )),rfl,(by(try simp only[List.length_map] at *)<;>omega)⟩)|skip
  refine zai eRg zae [0,3,146,147] [] 0 (fun i:Nat=>[(148,i64 i)]) (fun _=>[]) [] (fun i=>p.l.length+1 - i) (0) ?_
  conv=>whnf
  refine⟨?_,fun i=>?_⟩
  · conv => whnf
    (repeat' first|exact True.intro|rfl|apply And.intro )
  conv=>whnf
  repeat' ((first|refine Rq.mk (by(first|rfl|((try simp only[rz]);omega))) ?_|refine Br.split (fun h=>?_) (fun h=>?_)<;>(try simp only[bz] at h)<;>try (exfalso;omega)|(refine zaa rfl (he0 _ hx) ?_;rintro _ (⟨rfl,-⟩|⟨e9,rfl,he9⟩))|(obtain⟨op1,t2,v1,m2,l2,r2,he,hx⟩:=zf0 hp (n:=(i:Int)) (by omega);refine Ok3.mk _ he ?_;clear he))<;>conv=>whnf)
  all_goals first|exact .inr ⟨_,rfl,by assumption⟩|(refine⟨i+1,?_,rfl,?_⟩<;>first|((conv=>whnf);(repeat' first|exact True.intro|rfl|apply And.intro|(refine cw ?_ ?_ ?_<;>(try dsimp only)<;>omega) );done)|((try simp only[List.length_map] at *)<;>omega))|skip
  refine zai eRg zae [0,3,157,158] [] 0 (fun i:Nat=>[(159,i64 i)]) (fun _=>[]) [] (fun i=>s.l.length+1 - i) (0) ?_
  conv=>whnf
  refine⟨?_,fun i=>?_⟩
  · conv => whnf
    (repeat' first|exact True.intro|rfl|apply And.intro )
  conv=>whnf
  repeat' ((first|refine Rq.mk (by(first|rfl|((try simp only[rz]);omega))) ?_|refine Br.split (fun h=>?_) (fun h=>?_)<;>(try simp only[bz] at h)|(refine zaa rfl (he0 _ hx) ?_;rintro _ (⟨rfl,-⟩|⟨e9,rfl,he9⟩))|(obtain⟨op1,t2,v1,m2,l2,r2,lo,hi,st,he,hx⟩:=zo9 hs (n:=(i:Int)) (by omega);refine Ok3.mk _ he ?_;clear he))<;>conv=>whnf)
  all_goals first|exact .inr ⟨_,rfl,by assumption⟩|(refine⟨i+1,?_,rfl,?_⟩<;>first|((conv=>whnf);(repeat' first|exact True.intro|rfl|apply And.intro|(refine cw ?_ ?_ ?_<;>(try dsimp only)<;>omega) );done)|((try simp only[List.length_map] at *)<;>omega))|skip
  refine zai eRg zae [3,169,170] [] 0 (fun i:Nat=>[(171,i64 i)]) (fun _=>[]) [] (fun i=>p.l.length+1 - i) (0) ?_
  conv=>whnf
  refine⟨?_,fun i=>?_⟩
  · conv => whnf
    (repeat' first|exact True.intro|rfl|apply And.intro )
  conv=>whnf
  repeat' ((first|refine Rq.mk (by(first|rfl|((try simp only[rz]);omega))) ?_|refine Br.split (fun h=>?_) (fun h=>?_)<;>(try simp only[bz] at h)<;>try (exfalso;omega)|(refine zaa rfl (ze3 _) ?_;rintro _ rfl)|(refine zaa rfl (ze4 _) ?_;rintro _ rfl)|(obtain⟨op1,t2,v1,m2,l2,r2,he,hx⟩:=zf0 hp (n:=(i:Int)) (by omega);refine Ok3.mk _ he ?_;clear he))<;>conv=>whnf)
  all_goals first|exact .inr ⟨_,rfl,by decide⟩|(refine⟨i+1,?_,rfl,?_⟩<;>first|((conv=>whnf);(repeat' first|exact True.intro|rfl|apply And.intro|(refine cw ?_ ?_ ?_<;>(try dsimp only)<;>omega) );done)|((try simp only[List.length_map] at *)<;>omega))|skip
  refine zai eRg zae [182,183] [] 0 (fun i:Nat=>[(184,i64 i)]) (fun _=>[]) [] (fun i=>s.l.length+1 - i) (0) ?_
  conv=>whnf
  refine⟨?_,fun i=>?_⟩
  · conv => whnf
    (repeat' first|exact True.intro|rfl|apply And.intro )
  conv=>whnf
  repeat' ((first|refine Rq.mk (by(first|rfl|((try simp only[rz]);omega))) ?_|refine Br.split (fun h=>?_) (fun h=>?_)<;>(try simp only[bz] at h)|(refine zaa rfl (ze3 _) ?_;rintro _ rfl)|(refine zaa rfl (ze4 _) ?_;rintro _ rfl)|(obtain⟨op1,t2,v1,m2,l2,r2,lo,hi,st,he,hx⟩:=zo9 hs (n:=(i:Int)) (by omega);refine Ok3.mk _ he ?_;clear he))<;>conv=>whnf)
  all_goals first|exact .inr ⟨_,rfl,by decide⟩|(refine⟨i+1,?_,rfl,?_⟩<;>first|((conv=>whnf);(repeat' first|exact True.intro|rfl|apply And.intro|(refine cw ?_ ?_ ?_<;>(try dsimp only)<;>omega) );done)|((try simp only[List.length_map] at *)<;>omega))|skip
  all_goals exact .inl ⟨rfl,trivial⟩
theorem ya8 (c:Ck):∀(d:Nat) (cs:List AV),ExD d cs→DPR 183 [c.av,.agg cs] (retU True)
 | 0,_,h=>h.elim
 | d + 1, cs, hE => by
   have ih:=ya8 c d;obtain⟨op,t,v,m,l,r,hcs,hl,hr⟩:=id hE;subst hcs;refine zaf eRg zae Tryz.func183 rfl (by decide) rfl rfl ?_
   have hll:=l.h;have hrl:=r.h
   conv=>whnf
   repeat' ((first|refine zag (fun h=>?_) (fun h=>?_)<;>(try simp only[bz] at h)|(refine zaa rfl (ze3 _) ?_;rintro _ rfl)|(refine zaa rfl (ze4 _) ?_;rintro _ rfl)|(refine zaa rfl (zqa _ _ hE _) ?_;rintro _ ⟨b1,rfl,-⟩)|(refine zaa rfl (zz4 c op m t v l r) ?_;rintro _ (⟨rfl,hN⟩|rfl)))<;>conv=>whnf)
   all_goals first|exact .inr ⟨_,rfl,by decide⟩|skip
   refine zai eRg zae [0,3,16,17] [] 0 (fun i:Nat=>[(18,i64 i)]) (fun _=>[]) [] (fun i=>r.l.length+1 - i) (0) ?_
   conv=>whnf
   refine⟨?_,fun i=>?_⟩
   · conv => whnf
     (repeat' first|exact True.intro|rfl|apply And.intro )
   conv=>whnf
   repeat' ((first|refine Rq.mk (by(first|rfl|((try simp only[rz]);omega))) ?_|refine Br.split (fun h=>?_) (fun h=>?_)<;>(try simp only[bz] at h)|(refine zaa rfl (ynh c ih b u m1 o p s t1 hp hs) ?_;rintro _ (⟨rfl,-⟩|⟨e9,rfl,he9⟩))|(obtain⟨b,u,m1,o,p,s,t1,he,hp,hs⟩:=zl2 hr (n:=(i:Int)) (by omega);refine Ok3.mk _ he ?_;clear he))<;>conv=>whnf)
   all_goals first|exact .inr ⟨_,rfl,by assumption⟩|(refine⟨i+1,?_,rfl,?_⟩<;>first|((conv=>whnf);(repeat' first|exact True.intro|rfl|apply And.intro|(refine cw ?_ ?_ ?_<;>(try dsimp only)<;>omega) );done)|((try simp only[List.length_map] at *)<;>omega))|skip
   refine zai eRg zae [0,3,27,28] [] 0 (fun i:Nat=>[(29,i64 i)]) (fun _=>[]) [] (fun i=>l.l.length+1 - i) (0) ?_
   conv=>whnf
   refine⟨?_,fun i=>?_⟩
   · conv => whnf
     (repeat' first|exact True.intro|rfl|apply And.intro )
   conv=>whnf
   repeat' ((first|refine Rq.mk (by(first|rfl|((try simp only[rz]);omega))) ?_|refine Br.split (fun h=>?_) (fun h=>?_)<;>(try simp only[bz] at h)|refine zag (fun h=>?_) (fun h=>?_)<;>(try simp only[bz] at h)|(refine zaa rfl (ze3 _) ?_;rintro _ rfl)|(refine zaa rfl (ze4 _) ?_;rintro _ rfl)|(refine zaa rfl (ih _ hx) ?_;rintro _ (⟨rfl,-⟩|⟨e9,rfl,he9⟩))|(refine zaa rfl (zjf t) ?_;rintro _ ⟨b2,rfl,hb2⟩)|(refine zaa rfl (yhk c op m t v l r hN hl hr) ?_;rintro _ ⟨b3,rfl,-⟩)|(obtain⟨op1,t2,v1,m2,l2,r2,he,hx⟩:=zf0 hl (n:=(i:Int)) (by omega);refine Ok3.mk _ he ?_;clear he))<;>conv=>whnf)
   all_goals first|exact .inr ⟨_,rfl,by decide⟩|exact .inr ⟨_,rfl,by assumption⟩|(refine⟨i+1,?_,rfl,?_⟩<;>first|((conv=>whnf);(repeat' first|exact True.intro|rfl|apply And.intro|(refine cw ?_ ?_ ?_<;>(try dsimp only)<;>omega) );done)|((try simp only[List.length_map] at *)<;>omega))|skip
   all_goals exact .inl ⟨rfl,trivial⟩
structure SetOK (c:Ck)(kind:Int)(r e:BL (List AV)):Prop where
 h2:kind=2→r.l.length=1∧e.l.length=1
 h4:kind=4→e.l.length=1
 h11:kind=11→1≤r.l.length
 h7:kind=7→∃h:c.proc.toNat<c.p.procs.l.length,e.l.length=(c.p.procs.l[c.proc.toNat]'h).rets.l.length
theorem zy3 (c:Ck)(kind no:Int)(r e:BL (List AV))(n p cc:Int)(f:BL Fm)(skip:Int)(size range:Bool):DPR 181 [c.av,.agg [i64 kind,i64 no,.rsl 11 r.l,.rsl 11 e.l,i64 n,i64 p,i64 cc,zrd f.l,i64 skip,.bool size,.bool range]] (fun ae=>(ae = .ret (.bool true)∧SetOK c kind r e)∨ae = .ret (.bool false)):=by
 by_cases hk:1≤kind∧kind≤22
 · rcases (show kind = 1 ∨ kind = 2 ∨ kind = 3 ∨ kind = 4 ∨ kind = 5 ∨ kind = 6 ∨ kind = 7 ∨ kind = 8 ∨ kind = 9 ∨ kind = 10 ∨ kind = 11 ∨ kind = 12 ∨ kind = 13 ∨ kind = 14 ∨ kind = 15 ∨ kind = 16 ∨ kind = 17 ∨ kind = 18 ∨ kind = 19 ∨ kind = 20 ∨ kind = 21 ∨ kind = 22 by omega) with rfl | rfl | rfl | rfl | rfl | rfl | rfl | rfl | rfl | rfl | rfl | rfl | rfl | rfl | rfl | rfl | rfl | rfl | rfl | rfl | rfl | rfl
   all_goals
    refine zaf eRg zae Tryz.func181 rfl (by decide) rfl rfl ?_
    have hl:=c.p.procs.h;have hl4:=c.p.ctl.h;have hpr:=c.hproc;have hrl:=r.h;have hel:=e.h;have w0:wr .i64 0=0:=wr64 (by decide) (by decide)
    have w1:wr .i64 1=1:=wr64 (by decide) (by decide)
    have w2:wr .i64 2=2:=wr64 (by decide) (by decide)
    conv=>whnf
    repeat' ((first|refine Rq.mk (by(first|rfl|((try simp only[rz]);omega))) ?_|refine Br.t (b:=eqI (zcs _ _ _ _) _) (by rw[zrj];decide) ?_|refine Br.f (b:=eqI (zcs _ _ _ _) _) (by rw[yez];decide) ?_|refine Br.split (fun h=>?_) (fun h=>?_)<;>(try simp only[bz] at h)<;>try (exfalso;omega)|refine zag (fun h=>?_) (fun h=>?_)<;>(try simp only[bz] at h)|refine Ok3.mk _ (za2 (by omega)) ?_|(refine zaa rfl (zg5 _ _ _) ?_;rintro _ (⟨rfl,hb2⟩|⟨rfl,hb2⟩))|(refine zar rfl (zj7 _ _ (by simp only[List.length_map];omega)) ?_;rintro _ (⟨rfl,hb1⟩|⟨rfl,hb1⟩)<;>simp only[List.length_map] at hb1<;>refine⟨_,rfl,?_⟩)|(refine zar rfl (up_d c.p c.hp _ _ hpr.2) ?_;rintro _ ⟨n9,rfl,-⟩<;>refine⟨_,rfl,?_⟩)|(refine zar rfl (zzs c _ _ hpr) ?_;rintro _ ⟨b5,rfl,-⟩<;>refine⟨_,rfl,?_⟩)|(refine zar rfl (zzs c _ _ (by omega)) ?_;rintro _ ⟨b5,rfl,-⟩<;>refine⟨_,rfl,?_⟩)|(refine zaa rfl (ydj c _ _ _) ?_;rintro _ ⟨b6,rfl,-⟩)|(refine zaa rfl (zx5 c _ _) ?_;rintro _ ⟨b7,rfl,-⟩)|(refine zaa rfl (zug _ _) ?_;rintro _ ⟨b8,rfl,-⟩)|(refine zaa rfl (ygs c _ _) ?_;rintro _ ⟨b9,rfl,-⟩)|(refine zaa rfl (zx4 f _) ?_;rintro _ ⟨b10,rfl,-⟩)|refine And.intro (a:=zaw _=true) (by kernel_rfl) (LzK.e ?_)|refine Ok3.mk _ rfl ?_)<;>conv=>whnf)
    all_goals first|exact .inr rfl|exact .inl ⟨rfl,⟨by omega,by omega,by omega,by omega⟩⟩|exact .inl ⟨rfl,⟨by omega,by omega,by omega,fun _=>⟨by omega,by omega⟩⟩⟩
 · refine zaf eRg zae Tryz.func181 rfl (by decide) rfl rfl ?_
   have hl:=c.p.procs.h;have hl4:=c.p.ctl.h;have hpr:=c.hproc;have hrl:=r.h;have hel:=e.h;have w0:wr .i64 0=0:=wr64 (by decide) (by decide)
   have w1:wr .i64 1=1:=wr64 (by decide) (by decide)
   have w2:wr .i64 2=2:=wr64 (by decide) (by decide)
   conv=>whnf
   repeat' ((first|refine Rq.mk (by(first|rfl|((try simp only[rz]);omega))) ?_|(refine zaa rfl (zg5 _ _ _) ?_;rintro _ (⟨rfl,hb2⟩|⟨rfl,hb2⟩)))<;>conv=>whnf)
   all_goals first|exact .inr rfl|(exfalso;omega)
theorem ya6 {d:Nat}(c:Ck)(kind no:Int)(r e:BL (List AV))(n p cc:Int)(f:BL Fm)(skip:Int)(size range:Bool)(hS:SetOK c kind r e)(hr:∀x∈r.l,RfP (ExD d) x)(he:∀x∈e.l,ExD d x):DPR 184 [c.av,.agg [i64 kind,i64 no,.rsl 11 r.l,.rsl 11 e.l,i64 n,i64 p,i64 cc,zrd f.l,i64 skip,.bool size,.bool range]] (retB fun _=>True):=by
 refine zaf eRg zae Tryz.func184 rfl (by decide) rfl rfl ?_
 have hl:=c.p.procs.h;have hpr:=c.hproc;have hrl:=r.h;have hel:=e.h;have q2:=hS.h2;have q4:=hS.h4;have q11:=hS.h11;have q7:kind=7→e.l.length=(c.p.procs.l[c.proc.toNat]'(by omega)).rets.l.length:=fun h=>by obtain⟨h1,h2⟩:=hS.h7 h;exact h2
 conv=>whnf
 repeat' ((first|refine Rq.mk (by(first|rfl|((try simp only[rz]);omega))) ?_|refine Br.split (fun h=>?_) (fun h=>?_)<;>(try simp only[bz] at h)|refine zag (fun h=>?_) (fun h=>?_)<;>(try simp only[bz] at h)|refine Ok3.mk _ (za2 (by omega)) ?_|(refine zar rfl (zok) ?_;rintro _ rfl<;>refine⟨_,rfl,?_⟩)|(refine zaa rfl (ygh e he _) ?_;rintro _ ⟨b1,rfl,-⟩)|(refine zaa rfl (yak r hr _) ?_;rintro _ ⟨b2,rfl,-⟩)|(refine zaa rfl (yak ⟨List.take _ (List.drop _ r.l),by simp only[List.length_take,List.length_drop];omega⟩ (fun x hx=>hr x (List.mem_of_mem_drop (List.mem_of_mem_take hx))) _) ?_;rintro _ ⟨b3,rfl,-⟩)|refine And.intro (a:=zaw _=true) (by kernel_rfl) (LzK.e ?_)|(obtain⟨op1,t2,v1,m2,l2,r2,hq,hx⟩:=zf0 he (n:=0) (by omega);refine Ok3.mk _ hq ?_;clear hq)|(obtain⟨rb,ru,rm,ro,rp,rs,t3,hq,hp1,hs1⟩:=zl2 hr (n:=0) (by omega);refine Ok3.mk _ hq ?_;clear hq))<;>conv=>whnf)
 all_goals first|exact⟨_,rfl,trivial⟩|skip
 · refine zai eRg zae [3, 4, 10, 91, 92] [] 0 (fun i : Nat => [(93, i64 i)]) (fun _ => []) [] (fun i => e.l.length + 1 - i) (0) ?_
   conv=>whnf
   refine⟨?_,fun i=>?_⟩
   · conv => whnf
     (repeat' first|exact True.intro|rfl|apply And.intro )
   conv=>whnf
   repeat' ((first|refine Rq.mk (by(first|rfl|((try simp only[rz]);omega))) ?_|refine Br.split (fun h=>?_) (fun h=>?_)<;>(try simp only[bz] at h)|(obtain⟨op1,t2,v1,m2,l2,r2,hq,hx⟩:=zf0 he (n:=(i:Int)) (by omega);refine Ok3.mk _ hq ?_;clear hq))<;>conv=>whnf)
   all_goals first|exact⟨_,rfl,trivial⟩|(refine⟨i+1,?_,rfl,?_⟩<;>first|((conv=>whnf);(repeat' first|exact True.intro|rfl|apply And.intro|(refine cw ?_ ?_ ?_<;>(try dsimp only)<;>omega) );done)|((try simp only[List.length_map] at *)<;>omega))
 · refine zai eRg zae [3, 4, 10, 105, 106] [] 0 (fun i : Nat => [(107, i64 i)]) (fun _ => []) [] (fun i => r.l.length + 1 - i) (0) ?_
   conv=>whnf
   refine⟨?_,fun i=>?_⟩
   · conv => whnf
     (repeat' first|exact True.intro|rfl|apply And.intro )
   conv=>whnf
   repeat' ((first|refine Rq.mk (by(first|rfl|((try simp only[rz]);omega))) ?_|refine Br.split (fun h=>?_) (fun h=>?_)<;>(try simp only[bz] at h)|(obtain⟨rb,ru,rm,ro,rp,rs,t3,hq,hp1,hs1⟩:=zl2 hr (n:=(i:Int)) (by omega);refine Ok3.mk _ hq ?_;clear hq))<;>conv=>whnf)
   all_goals first|exact⟨_,rfl,trivial⟩|(refine⟨i+1,?_,rfl,?_⟩<;>first|((conv=>whnf);(repeat' first|exact True.intro|rfl|apply And.intro|(refine cw ?_ ?_ ?_<;>(try dsimp only)<;>omega) );done)|((try simp only[List.length_map] at *)<;>omega))
theorem ym1 {d:Nat}(c:Ck)(cs:List AV)(hE:StD d cs):DPR 135 [c.av,.agg cs] (retU True):=by
 obtain⟨kind,no,r,e,n,p,cc,f,skip,size,range,hcs,hr,he⟩:=hE;subst hcs;refine zaf eRg zae Tryz.func135 rfl (by decide) rfl rfl ?_
 have hrl:=r.h;have hel:=e.h
 conv=>whnf
 repeat' ((first|(refine zaa rfl (ze3 _) ?_;rintro _ rfl)|(refine zaa rfl (ze4 _) ?_;rintro _ rfl)|(refine zaa rfl (zy3 c kind no r e n p cc f skip size range) ?_;rintro _ (⟨rfl,hN⟩|rfl)))<;>conv=>whnf)
 all_goals first|exact .inr ⟨_,rfl,by decide⟩|skip
 refine zai eRg zae [0,3,13,14] [] 0 (fun i:Nat=>[(15,i64 i)]) (fun _=>[]) [] (fun i=>r.l.length+1 - i) (0) ?_
 conv=>whnf
 refine⟨?_,fun i=>?_⟩
 · conv => whnf
   (repeat' first|exact True.intro|rfl|apply And.intro )
 conv=>whnf
 repeat' ((first|refine Rq.mk (by(first|rfl|((try simp only[rz]);omega))) ?_|refine Br.split (fun h=>?_) (fun h=>?_)<;>(try simp only[bz] at h)|(refine zaa rfl (ynh c (ya8 c d) b u m1 o p1 s t1 hp hs) ?_;rintro _ (⟨rfl,-⟩|⟨e9,rfl,he9⟩))|(obtain⟨b,u,m1,o,p1,s,t1,hq,hp,hs⟩:=zl2 hr (n:=(i:Int)) (by omega);refine Ok3.mk _ hq ?_;clear hq))<;>conv=>whnf)
 all_goals first|exact .inr ⟨_,rfl,by assumption⟩|(refine⟨i+1,?_,rfl,?_⟩<;>first|((conv=>whnf);(repeat' first|exact True.intro|rfl|apply And.intro|(refine cw ?_ ?_ ?_<;>(try dsimp only)<;>omega) );done)|((try simp only[List.length_map] at *)<;>omega))|skip
 refine zai eRg zae [0,3,24,25] [] 0 (fun i:Nat=>[(26,i64 i)]) (fun _=>[]) [] (fun i=>e.l.length+1 - i) (0) ?_
 conv=>whnf
 refine⟨?_,fun i=>?_⟩
 · conv => whnf
   (repeat' first|exact True.intro|rfl|apply And.intro )
 conv=>whnf
 repeat' ((first|refine Rq.mk (by(first|rfl|((try simp only[rz]);omega))) ?_|refine Br.split (fun h=>?_) (fun h=>?_)<;>(try simp only[bz] at h)|refine zag (fun h=>?_) (fun h=>?_)<;>(try simp only[bz] at h)|(refine zaa rfl (ze3 _) ?_;rintro _ rfl)|(refine zaa rfl (ze4 _) ?_;rintro _ rfl)|(refine zaa rfl (ya8 c d _ hx) ?_;rintro _ (⟨rfl,-⟩|⟨e9,rfl,he9⟩))|(refine zaa rfl (ya6 c kind no r e n p cc f skip size range hN hr he) ?_;rintro _ ⟨b3,rfl,-⟩)|(obtain⟨op1,t2,v1,m2,l2,r2,hq,hx⟩:=zf0 he (n:=(i:Int)) (by omega);refine Ok3.mk _ hq ?_;clear hq))<;>conv=>whnf)
 all_goals first|exact .inr ⟨_,rfl,by decide⟩|exact .inr ⟨_,rfl,by assumption⟩|(refine⟨i+1,?_,rfl,?_⟩<;>first|((conv=>whnf);(repeat' first|exact True.intro|rfl|apply And.intro|(refine cw ?_ ?_ ?_<;>(try dsimp only)<;>omega) );done)|((try simp only[List.length_map] at *)<;>omega))|skip
 all_goals exact .inl ⟨rfl,trivial⟩
theorem yhz {H:zah}{k nm sz:Nat}{a1 a2 a3 a4 a5 a6 a7:AV}{y:Int}{acc:List Int}(hH:H.get k=some (.arr sz [[a1,a2,a3,a4,a5,a6,a7,.slc nm 0 ((acc.map fun a:Int=>[i64 a]).length+1) 1]]))
 (h1:mapO (snap H 19) [a1,a2,a3,a4,a5,a6,a7]=some [a1,a2,a3,a4,a5,a6,a7])(h2:H.get nm=some (.arr 1 ([i64 y]::acc.map fun a:Int=>[i64 a]))) :
 snap H 20 (.ptr k 0 0)=some (.rptr [a1,a2,a3,a4,a5,a6,a7,.rsl 1 ([i64 y]::acc.map fun a:Int=>[i64 a])]):=by
 have h3:=zbf (H:=H) (k:=nm) (sz:=1) (n:=18) (f:=fun a:Int=>[i64 a]) (y:=y) (acc:=acc) (fun _=>rfl) h2
 have h4:∀(l r:List AV) (x z:AV),mapO (snap H 19) l=some r→snap H 19 x=some z→mapO (snap H 19) (l++[x])=some (r++[z]):=by
  intro l
  induction l with
  | nil=>intro r x z e1 e2;cases e1;simp[mapO,e2]
  | cons b l ih =>
    intro r x z e1 e2;simp only[mapO] at e1;split at e1
    · cases e1
    · rename_i b' hb
      split at e1
      · cases e1
      · rename_i l' hl
        cases e1;simp only[List.cons_append,mapO,hb,ih l' x z hl e2]
 have h5:=h4 _ _ _ _ h1 h3;have h6:snap H 20 (.ptr k 0 0)=match H.get k with
  | some (.arr _ es) => match es[0]? with
    | some e => match mapO (snap H 19) (e.drop 0) with
      | some cs=>some (.rptr cs)
      | none=>none
    | none=>none
  | _=>none:=rfl
 rw[h6,hH];simp only[List.getElem?_cons_zero,List.drop_zero]
 erw [h5]
 rfl
structure InI (p:Prg) where
 q:Int
 acc:List Int
 hq : -1≤q∧q<p.procs.l.length
 ha:∀a∈acc,0≤a∧a<(p.procs.l.length:Int)
 hl:(acc.length:Int)+q+1≤p.procs.l.length
 hne:acc=[]→0≤q
theorem zqv (p:Prg)(hp:zd1 p.procs.l)(q:Int)(h:0≤q∧q<p.procs.l.length) : -1≤(p.procs.l[q.toNat]'(by omega)).parent∧(p.procs.l[q.toNat]'(by omega)).parent≤q - 1:=by
 obtain⟨h1,h2,_⟩:=hp q.toNat (by omega) (by omega)
 by_cases h0:q.toNat=0
 · have:=h1 h0;omega
 · have:=h2 h0;omega
theorem yqn (p:Prg)(hp:zd1 p.procs.l)(hlen:p.procs.l.length≤64)(n:Int)(hn:0≤n∧n<p.procs.l.length):DPR 134 [p.av,i64 n] (fun ae=>∃c:Ck,ae = .ret c.av∧c.p=p):=by
 refine zaf eRg zae Tryz.func134 rfl (by decide) rfl rfl ?_
 conv=>whnf
 refine zai eRg zae [2,4,5] [5] 2000 (fun i:InI p=>[(6,i64 i.q)]) (fun i=>(5,.arr 8 [[ziu p.procs.l,i64 p.static,zi3 p.image.l,ztg p.files.l,.rsl 1 (p.conds.l.map fun s=>[.str s.l]),zaq p.ctl.l,i64 n,accV 1000 1 (i.acc.map fun a=>[i64 a])]])::accH 1000 1 (i.acc.map fun a=>[i64 a])) [(1000,.cell 5 7)] (fun i=>(i.q+1).toNat) (⟨n,[],by omega,(fun _ h=>absurd h (by simp)),by simp;omega,fun _=>hn.1⟩) ?_
 conv=>whnf
 refine⟨?_,fun i=>?_⟩
 · conv => whnf
   (repeat' first|exact True.intro|apply And.intro|rfl )
 obtain⟨q,acc,hq,ha,hl,hne⟩:=i;rcases acc with _|⟨y,acc⟩
 · have h0 := hne rfl
   have hpar:=zqv p hp q ⟨h0,hq.2⟩
   conv=>whnf
   repeat' ((first|refine Br.f (b:=Nat.beq _ _) rfl ?_|refine Rq.mk (by(first|rfl|((try simp only[rz]);omega))) ?_|refine Br.split (fun h=>?_) (fun h=>?_)<;>(try simp only[bz] at h)<;>try (exfalso;omega)|refine Ok3.mk _ (za2 (n:=q) (by omega)) ?_)<;>conv=>whnf)
   all_goals (refine⟨⟨(p.procs.l[q.toNat]'(by omega)).parent,[q],by omega,(by intro a ha;rw[List.mem_singleton] at ha;omega),(by simp only[List.length_cons,List.length_nil];omega),(fun h=>by cases h)⟩,?_,rfl,?_⟩<;>first|((conv=>whnf);(repeat' first|exact True.intro|exact congrArg (fun x=>AObj.arr 8 [[_,_,_,_,_,_,_,x]]) (zat (by rfl) (by rfl) (by simp) (by rfl))|apply And.intro|exact zaj (f:=fun a:Int=>[i64 a]) (fun _=>by rfl)|rfl );done)|((try dsimp only)<;>omega))
 · have hm := hl
   simp only[List.length_cons] at hm
   by_cases h0:0≤q
   · have hpar := zqv p hp q ⟨h0, hq.2⟩
     conv=>whnf
     repeat' ((first|refine Br.f (b:=Nat.beq _ _) rfl ?_|refine Rq.mk (zcg 8 64 (by simp) rfl rfl (by simp only[List.length_cons,List.length_map] at *;omega) (by decide)) ?_|refine Rq.mk (by(first|rfl|((try simp only[rz]);omega))) ?_|refine Br.split (fun h=>?_) (fun h=>?_)<;>(try simp only[bz] at h)<;>try (exfalso;omega)|refine Ok3.mk _ (za2 (n:=q) (by omega)) ?_)<;>conv=>whnf)
     all_goals (refine⟨⟨(p.procs.l[q.toNat]'(by omega)).parent,y::(acc++[q]),by omega,(by intro a h;simp only[List.mem_cons,List.mem_append,List.mem_singleton,List.not_mem_nil,or_false] at h;rcases h with h|h|h;(exact ha a (by simp[h]));(exact ha a (by simp[h]));omega),(by simp only[List.length_cons,List.length_append,List.length_nil];omega),(fun h=>by cases h)⟩,?_,rfl,?_⟩<;>first|((conv=>whnf);(repeat' first|exact True.intro|exact congrArg (fun x=>AObj.arr 8 [[_,_,_,_,_,_,_,x]]) (zat (by rfl) (by rfl) (by simp) (by rfl))|apply And.intro|exact za4 (by rfl) (za7 (f:=fun a:Int=>[i64 a]) (fun _=>by rfl) (by rfl) (by simp))|exact zaj (f:=fun a:Int=>[i64 a]) (fun _=>by rfl)|rfl );done)|((try dsimp only)<;>omega))
   · skip
     conv=>whnf
     repeat' first
      | (refine Br.split (fun h=>?_) (fun h=>?_)<;>(try simp only[bz] at h)<;>first|(exfalso;omega)|(conv=>whnf))
     generalize hg:snap _ 20 _=rr
     obtain rfl:=Eq.trans hg.symm (yhz (by rfl) (by rfl) (by rfl))
     conv=>whnf
     exact⟨⟨p,n,⟨y::acc,by simp only[List.length_cons];omega⟩,hn,ha,hp⟩,rfl,rfl⟩
end Go.Ago
