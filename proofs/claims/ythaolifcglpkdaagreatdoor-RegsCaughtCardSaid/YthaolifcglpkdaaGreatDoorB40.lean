/-
  Part B40: lemmas, each with its own conditions.
-/
import Derived.Test.YthaolifcglpkdaaGreatDoorB37
set_option maxRecDepth 100000
set_option maxHeartbeats 0
set_option linter.all false
namespace Go.Ago
open Go.Proofs List Nat Tryz
attribute [local irreducible] bA bw aV bp bG wr aZ bF comp DC DP DW DV
attribute [local irreducible] du ct aL cE dE dm dR dL bU dw dG bK bn bB eh fY lV db aY aQ aH dU
abbrev bc (b:Bool):List AV:=[.bool b]
abbrev me (i:Ins):Int×Int×Int:=(i.op,i.p,i.n)
theorem jG {ρ:Nat->Nat}{s:Nat}{l:List Bool}{es:List (List AV)}(h:es=l.map bc):an.arr s es=an.cp ρ (.arr s (l.map bc)):=by
 subst h;simp only[an.cp,zcz];congr 1
theorem wc {n s:Nat}{l:List Bool}:an.lt n (.arr s (l.map bc)):=by show(List.all _ _)=true;simp[AV.l1,AV.la,AV.l0]
def eO (pl:List Int)(k r:Int):Prop:=0≤pl.getD r.toNat 0∧pl.getD r.toNat 0<k
structure pz (g:Gr)(k:Int)(n:Nat)(mk:List Bool)(pl:List Int):Prop where
 ml:mk.length=k.toNat
 pl:pl.length=g.ah.toNat
 F0:lA mk≤n
theorem F1:∀{l:List Bool},kY l l.length->lA l=l.length
 | [],_=>rfl
 | b :: l, h => by
   have h0:b=true:=h 0 ag ag;have h1:=@F1 l fun j hj hl=>by have:=h (j+1) eE eE;simpa using this
   subst h0;unfold lA at h1 ⊢;rw[count_cons_self,h1,zbd]
theorem BE {g:Gr}{k:Int}{n:Nat}{mk:List Bool}{pl:List Int}(h:pz g k n mk pl)(hn:(n:Int)<k){i:Int}(hi:kF mk i):0≤i∧i<k:=by
 have h1:=h.ml;rcases hi with⟨rfl,ha⟩|⟨h2,h3,_⟩
 . have:=F1 ha;have:=h.F0;omega
 . omega
theorem uB {pl:List Int}{i j:Nat}{v:Int}(hi:i<pl.length):(pl.set i v).getD j 0=if j=i then v else pl.getD j 0:=by
 by_cases h:j=i
 . subst h;simp[getD,hi]
 . simp[getD,zbV (Ne.symm h),h]
theorem pz.put {g:Gr}{k:Int}{n:Nat}{mk:List Bool}{pl:List Int}(h:pz g k n mk pl){r i:Int}:pz g k (n+1) (mk.set i.toNat true) (pl.set r.toNat i):=
 ⟨by rw[zbP,h.ml],by rw[zbP,h.pl],by have:=@wD mk i.toNat;have:=h.F0;omega⟩
theorem eO.put {pl:List Int}{k r i s:Int}(hr:r.toNat<pl.length)(hi:0≤i∧i<k)(hs:s.toNat≠r.toNat->eO pl k s):eO (pl.set r.toNat i) k s:=by
 unfold eO;rw[uB hr];split
 . exact hi
 . rename_i h;exact hs h
def vF (pl:List Int)(k:Int)(L:List Int)(n:Nat):Prop:=∀r∈L.take n,eO pl k r
theorem vF.step {pl:List Int}{k i:Int}{L:List Int}{n:Nat}(h:vF pl k L n)(hn:n<L.length)(hr:L[n].toNat<pl.length)(hi:0≤i∧i<k):vF (pl.set L[n].toNat i) k L (n+1):=fun s hs=>by
 refine eO.put hr hi fun cF=>?_
 rw[zbi hn] at hs;rcases zbL.1 hs with hs|hs
 . exact h s hs
 . rw[zbU.1 hs] at cF;exact absurd rfl cF
theorem xW {l:List Int}{r:Nat}{x:List AV}(h:r<l.length):((l.map ic).set (0+r) x)[0+r]? = some x:=by simp[h]
theorem xm {pl:List Int}{r:Nat}{i:Int}:(pl.map ic).set (0+r) [i64 i]=(pl.set r i).map ic:=by rw[zcD,zce]
theorem we {mk:List Bool}{r:Nat}{b:Bool}:(mk.map bc).set (0+r) [.bool b]=(mk.set r b).map bc:=by rw[zcD,zce]
def lz (L:List Int)(d:Int)(j:Nat):Nat:=(L.take j).countP fun r=>decide (r≠d)
theorem wC {L:List Int}{d:Int}{j:Nat}(h:j<L.length):lz L d (j+1)=lz L d j+(if L[j]≠d then 1 else 0):=by
 unfold lz;rw[zbi h,countP_append];simp[countP_cons]
theorem FZ {L:List Int}{d:Int}{j:Nat}(h:L.length≤j):lz L d j=L.countP fun r=>decide (r≠d):=by
 unfold lz;rw[zbj h]
theorem Gg (p:Nat->Bool)(d:Nat):∀n,(List.range n).countP (fun x=>p x || decide (x=d))=(List.range n).countP (fun x=>p x && decide (x≠d))+(if d<n then 1 else 0)
 | 0=>ag
 | n + 1 => by
   rw[zcW,countP_append,countP_append,Gg p d n];simp only[countP_cons,countP_nil,zbQ,zbe,zbz]
   by_cases h1:n=d
   . subst h1;simp
   . by_cases h2 : d < n
     . have : d < n + 1 := aa
       cases hp:p n<;>simp[h1,h2,this]<;>omega
     . have : ¬ d < n + 1 := aa
       cases hp:p n<;>simp[h1,h2,this]
theorem I1 {g:Gr}(hg:cN g){S:List (List aA)}(hS:fD g S){m:Nat}(hm:m<g.ins.l.length)(hd:0≤aH g.ins.l[m]) :
 ((bn (aK S (m+1)) g.ah.toNat).countP fun r=>decide (r≠aH g.ins.l[m]))+1=(oF g S m).length:=by
 have hs:=hg.gx _ (za9 hm);have hge:=mh hg;have hrow:=eK hS.toShS (k:=m+1) aa;rw[I3 hm hd];unfold bn;rw[zba,countP_map,countP_filter,<-countP_eq_length_filter];have e1:(List.range g.ah.toNat).countP (bB (eB (aK S (m+1)) (aH g.ins.l[m]).toNat))=(List.range g.ah.toNat).countP (fun x=>bB (aK S (m+1)) x || decide (x=(aH g.ins.l[m]).toNat)):=by
  refine countP_congr fun x hx=>?_
  rw[wm (by rw[hrow];omega)]
  simp only[zbQ,zbz];exact⟨fun h=>h.elim (fun h => .inr aa) .inl,fun h=>h.elim .inr (fun h => .inl aa)⟩
 rw[e1,Gg,if_pos aa]
 congr 1
 refine countP_congr fun x hx=>?_
 simp only[zcP,zbe,zbz,ne_eq];exact⟨fun h=>⟨h.2,aa⟩,fun h=>⟨aa,h.1⟩⟩
def d_ (i:Ins)(w w':List Int):Ins:={ gG i w with d:=if 0≤aH i then w'.getD i.d.toNat 0 else i.d }
structure FlatP (g:Gr)(S:List (List aA))(k:Int)(W:Nat->List Int)(m:Nat)(B:List Ins):Prop where
 len:B.length=m
 le:m≤g.ins.l.length
 row:∀(p:Nat) (h:p<g.ins.l.length) (h':p<B.length),B[p]=d_ g.ins.l[p] (W p) (W (p+1))
 jM:∀(p:Nat),p≤m->∀r:Nat,(r:Int)<g.ah->hJ S p r->eO (W p) k (r:Int)
 dst:∀(p:Nat) (h:p<g.ins.l.length),p<m->0≤aH g.ins.l[p]->eO (W (p+1)) k (aH g.ins.l[p])
 sep:∀(p:Nat) (h:p<g.ins.l.length),p<m->cS g.ins.l[p]->0≤aH g.ins.l[p]->∀r:Nat,(r:Int)<g.ah->hJ S (p+1) r->(r:Int)≠aH g.ins.l[p]->(W (p+1)).getD r 0≠(W (p+1)).getD (aH g.ins.l[p]).toNat 0
 Ic:∀(p:Nat) (h:p<g.ins.l.length),p<m->cS g.ins.l[p]->∀r:Nat,(r:Int)<g.ah->hJ S (p+1) r->(r:Int)≠aH g.ins.l[p]->(W (p+1)).getD r 0=(W p).getD r 0
structure j3 (g:Gr)(S:List (List aA))(k:Int)(W:Nat->List Int)(B:List Ins):Prop extends FlatP g S k W g.ins.l.length B where
 iU:∀(p:Nat),∀t∈aY g p,W t.toNat=W p
structure gZ (g:Gr)(S:List (List aA))(k:Int)(m:Nat)(mk:List Bool)(pl:List Int)(rows:List Ins):Prop where
 ml:mk.length=k.toNat
 pn:pl.length=g.ah.toNat
 fl:∃W:Nat->List Int,W m=pl∧FlatP g S k W m rows
theorem gZ.jM {g:Gr}{S:List (List aA)}{k:Int}{m:Nat}{mk:List Bool}{pl:List Int}{rows:List Ins}(h:gZ g S k m mk pl rows):∀r:Nat,(r:Int)<g.ah->hJ S m r->eO pl k (r:Int):=by
 obtain⟨W,rfl,hW⟩:=h.fl;exact hW.jM m (zbm _)
theorem gZ.le {g:Gr}{S:List (List aA)}{k:Int}{m:Nat}{mk:List Bool}{pl:List Int}{rows:List Ins}(h:gZ g S k m mk pl rows):m≤g.ins.l.length:=by obtain⟨W,_,hW⟩:=h.fl;exact hW.le
theorem gZ.len {g:Gr}{S:List (List aA)}{k:Int}{m:Nat}{mk:List Bool}{pl:List Int}{rows:List Ins}(h:gZ g S k m mk pl rows):rows.length=m:=by obtain⟨W,_,hW⟩:=h.fl;exact hW.len
theorem gZ.start {g:Gr}{S:List (List aA)}{k:Int}{mk:List Bool}{pl:List Int}(h1:mk.length=k.toNat)(h2:pl.length=g.ah.toNat)(h3:∀r:Nat,(r:Int)<g.ah->hJ S 0 r->eO pl k (r:Int)):gZ g S k 0 mk pl []:=
 ⟨h1,h2,fun _=>pl,rfl,rfl,zbq _,(fun p _ h=>absurd h (zbK _)),(fun p hp=>by obtain rfl:=le_zero.1 hp;exact h3),(fun p _ h=>absurd h (zbK _)),(fun p _ h=>absurd h (zbK _)),fun p _ h=>absurd h (zbK _)⟩
def mM (L pl:List Int)(d:Int)(j:Nat)(mk:List Bool):Prop:=∀r∈L.take j,r≠d->mk.getD (pl.getD r.toNat 0).toNat false=true
theorem mM.skip {L pl:List Int}{d:Int}{j:Nat}{mk:List Bool}(h:mM L pl d j mk)(hj:j<L.length)(he:L[j]=d):mM L pl d (j+1) mk:=fun r hr cF=>by
 rw[zbi hj] at hr;rcases zbL.1 hr with hr|hr
 . exact h r hr cF
 . rw[zbU.1 hr] at cF;exact absurd he cF
theorem mM.put {L pl:List Int}{d:Int}{j:Nat}{mk:List Bool}(h:mM L pl d j mk)(hj:j<L.length){x:Nat}(hx:x=(pl.getD L[j].toNat 0).toNat)(hl:x<mk.length):mM L pl d (j+1) (mk.set x true):=fun r hr cF=>by
 rw[zbD,zc8];rw[zbi hj] at hr
 by_cases e:x=(pl.getD r.toNat 0).toNat
 . rw[if_pos e,if_pos hl];rfl
 . rw [if_neg e, <-zbD]
   rcases zbL.1 hr with hr|hr
   . exact h r hr cF
   . rw[zbU.1 hr] at e;exact absurd hx e
theorem FlatP.step {g:Gr}{S:List (List aA)}{k:Int}{m:Nat}{W:Nat->List Int}{rows:List Ins}(h:FlatP g S k W m rows)(hm:m<g.ins.l.length){pl':List Int}{x:Ins}(hx:x=d_ g.ins.l[m] (W m) pl')
 (h1:∀r:Nat,(r:Int)<g.ah->hJ S (m+1) r->eO pl' k (r:Int))(h2:0≤aH g.ins.l[m]->eO pl' k (aH g.ins.l[m]))(h3:cS g.ins.l[m]->0≤aH g.ins.l[m]->∀r:Nat,(r:Int)<g.ah->hJ S (m+1) r->(r:Int)≠aH g.ins.l[m]->pl'.getD r 0≠pl'.getD (aH g.ins.l[m]).toNat 0)
 (h4:cS g.ins.l[m]->∀r:Nat,(r:Int)<g.ah->hJ S (m+1) r->(r:Int)≠aH g.ins.l[m]->pl'.getD r 0=(W m).getD r 0):∃W',W' (m+1)=pl'∧FlatP g S k W' (m+1) (rows++[x]):=by
 have lo:∀p,p≤m->(if p≤m then W p else pl')=W p:=fun p hp=>if_pos hp
 have hi:(if m+1≤m then W (m+1) else pl')=pl':=if_neg aa
 refine⟨fun p=>if p≤m then W p else pl',hi,by rw[zbk,h.len];rfl,hm,fun p hp hp'=>?_,fun p hp=>?_,fun p hp hpm=>?_,fun p hp hpm=>?_,fun p hp hpm=>?_⟩
 . by_cases e : p < m
   . have hr : p < rows.length := by rw [h.len]; exact e
     rw[getElem_append_left hr,h.row p hp hr]
     (try dsimp only)
     rw[lo p aa,lo (p+1) aa]
   . have e : p = m := by rw [zbk, h.len] at hp'; simp at hp'; omega
     subst e;rw[zcC (by rw[h.len];exact zbm _)]
     (try dsimp only)
     rw[lo p (zbm _),hi,<-hx];simp
 . by_cases e : p ≤ m
   . (try dsimp only);rw[lo p e];exact h.jM p e
   . have e : p = m + 1 := aa
     subst e
     (try dsimp only);rw[hi];exact h1
 . (try dsimp only)
   by_cases e:p<m
   . rw[lo (p+1) aa];exact h.dst p hp e
   . obtain rfl : p = m := aa
     rw[hi];exact h2
 . (try dsimp only)
   by_cases e:p<m
   . rw[lo (p+1) aa];exact h.sep p hp e
   . obtain rfl : p = m := aa
     rw[hi];exact h3
 . (try dsimp only)
   by_cases e:p<m
   . rw[lo (p+1) aa,lo p aa];exact h.Ic p hp e
   . obtain rfl : p = m := aa
     rw[hi,lo p (zbm _)];exact h4
theorem Ha {mk:List Bool}{i:Int}(h:kF mk i)(hi:0≤i):mk.getD i.toNat false=false:=by
 rcases h with⟨rfl,_⟩|⟨h1,h2,h3⟩
 . omega
 . have hlt : i.toNat < mk.length := aa
   simp only[getD,zbf hlt,zcb] at h3 ⊢;exact h3
theorem JE {g:Gr}(hv:gA g){pl:List Int}(h:pl.length=g.ah.toNat){i:Ins}(hi:i∈g.ins.l):vJ i pl:=by
 have h1:=hv.ins i hi;have hr:=hv.ah;refine⟨?_,?_,fun r hr2=>?_⟩
 . rcases h1.a with e | e
   . exact .inl aa
   . exact .inr aa
 . rcases h1.b with e | e
   . exact .inl aa
   . exact .inr aa
 . have:=h1.l r hr2;exact .inr aa
theorem xD {g:Gr}{S:List (List aA)}(dy:g_ g)(hL:fD g S){m r:Nat}(hm:m<g.ins.l.length)(hb:hJ S (m+1) r)(cF:(r:Int)≠aH g.ins.l[m]):hJ S m r:=by
 have hlast:=hL.last dy.1 r;have hf:cS g.ins.l[m]:=by
  rcases(dy.2 m hm hm).2 with h|h
  . exact h
  . have e : m + 1 = g.ins.l.length := aa
    rw[<-e,show bB (aK S (m+1)) r=true from hb] at hlast;cases hlast
 exact hL.fix m r aa (.inl ⟨hm,.inl ⟨hf,hb,cF⟩⟩)
theorem YF {i:Ins}(h:0≤aH i):aH i=i.d:=by
 unfold aH at h ⊢;split
 . rfl
 . rename_i h2;rw[if_neg h2] at h;omega
theorem gZ.put {g:Gr}{S:List (List aA)}{k:Int}{m:Nat}{mk mk1:List Bool}{pl:List Int}{rows:List Ins}{i:Int}{L:List Int}{j:Nat}(hg:cN g)(dy:g_ g)(hS:fD g S)(h:gZ g S k m mk pl rows)(hm:m<g.ins.l.length)(hd:0≤aH g.ins.l[m])(hi:kF mk1 i)(hi2:0≤i∧i<k)(hml:mk1.length=k.toNat)
 (hL:bn (aK S (m+1)) g.ah.toNat=L)(hM:mM L pl (aH g.ins.l[m]) j mk1)(hj:L.length≤j){x:Ins}(hx:x={ gG g.ins.l[m] pl with d:=i }){rows':List Ins}(h5:rows'=rows++[x]):gZ g S k (m+1) (mk1.set i.toNat true) (pl.set (aH g.ins.l[m]).toNat i) rows':=by
 subst h5;have hdr:=hg.gx _ (za9 hm);have hr3:(aH g.ins.l[m]).toNat<pl.length:=by rw[h.pn];omega
 obtain⟨W,hW1,hW⟩:=h.fl;have hput:∀r:Nat,(r:Int)≠aH g.ins.l[m]->(pl.set (aH g.ins.l[m]).toNat i).getD r 0=pl.getD r 0:=fun r cF=>by rw[uB hr3,if_neg aa]
 have hput2:(pl.set (aH g.ins.l[m]).toNat i).getD (aH g.ins.l[m]).toNat 0=i:=by rw[uB hr3,if_pos rfl]
 refine⟨by rw[zbP];exact hml,by rw[zbP];exact h.pn,hW.step hm ?_ (fun r hr hb=>?_) (fun _=>?_) (fun _ _ r hr hb cF=>?_) (fun _ r hr hb cF=>?_)⟩
 . rw [hx, hW1]
   unfold d_;rw[if_pos hd,<-YF hd,hput2]
 . exact eO.put (s:=(r:Int)) hr3 hi2 fun cF=>h.jM r hr (xD dy hS hm hb aa)
 . unfold eO;rw[hput2];exact hi2
 . rw [hput r cF, hput2]
   intro e;have h1:=hM (r:Int) (by rw[zbj hj,<-hL];exact nw.2 ⟨r,rfl,aa,hb⟩) cF
   rw[zbt,e,Ha hi hi2.1] at h1;cases h1
 . rw[hput r cF,hW1]
theorem gZ.keep {g:Gr}{S:List (List aA)}{k:Int}{m:Nat}{mk:List Bool}{pl:List Int}{rows:List Ins}(dy:g_ g)(hS:fD g S)(h:gZ g S k m mk pl rows)(hm:m<g.ins.l.length)(hd:¬0≤aH g.ins.l[m]){x:Ins}(hx:x=gG g.ins.l[m] pl){rows':List Ins}(h5:rows'=rows++[x]):gZ g S k (m+1) mk pl rows':=by
 subst h5;obtain⟨W,hW1,hW⟩:=h.fl;refine⟨h.ml,h.pn,hW.step hm ?_ (fun r hr hb=>h.jM r hr (xD dy hS hm hb aa)) (fun h2=>absurd h2 hd) (fun _ h2=>absurd h2 hd) (fun _ r _ _ _=>by rw[hW1])⟩
 rw[hx,hW1];unfold d_;rw[if_neg hd];rfl
theorem FlatP.LP {g:Gr}{S:List (List aA)}{k:Int}{W:Nat->List Int}{m:Nat}{B:List Ins}(h:FlatP g S k W m B)(dy:g_ g)(hm:m=g.ins.l.length):j3 g S k W B:=by
 subst hm;refine⟨h,fun p t ht=>?_⟩
 unfold aY at ht;split at ht
 . rename_i hp
   rw[(dy.2 p hp hp).1,dy.1] at ht;split at ht<;>cases ht
 . rw[dy.1] at ht;cases ht
theorem FlatP.key {g:Gr}{S:List (List aA)}{k:Int}{W:Nat->List Int}{m:Nat}{B:List Ins}(h:FlatP g S k W m B):B.map me=(g.ins.l.take m).map me:=by
 have hle:=h.le;have hlen:=h.len;refine zcx (by rw[zba,zba,zbA,hlen];omega) fun n h1 h2=>?_
 have hn:n<B.length:=by simpa using h1
 rw[zcl,zcl,getElem_take,h.row n aa hn];rfl
theorem HV {m:Nat}{rows:List (List AV)}(h:m+1<rows.length)(hb:m≤100000):aZ (wr .i64 ((m:Int)+1)) rows.length=true:=by
 rw[aE aa aa,hY];omega
theorem Jt {g:Gr}{S:List (List aA)}(hs:ShS g S){m:Nat}(h:m+1≤g.ins.l.length)(hb:m≤100000):(S.map fun ws=>[gb ws])[(wr .i64 ((m:Int)+1)).toNat]? = some [gb (aK S (m+1))]:=
 qw hs h (by rw[aE aa aa];omega) rfl
theorem FY {mk:List Bool}{n:Nat}(h:mk.length=n):(mk.map bc).take 0++replicate n [AV.bool false]++(mk.map bc).drop (0+n)=(replicate n false).map bc:=by
 rw[drop_eq_nil_of_le (by rw[zba];omega)];simp
theorem yw {n:Nat}:replicate n [AV.bool false]=(replicate n false).map bc:=ag
theorem yz {n:Nat}:replicate n [AV.int .i64 0]=(replicate n (0:Int)).map ic:=ag
def EG (g:Gr)(k:Int)(v:AV)(b:Bool):Prop:=
 (b=false∧v = .agg [i64 0,.ai])∨(b=true∧∃(bd:Bd) (S:List (List aA)) (W:Nat->List Int),v=bd.av∧bd.ah=k∧fD g S∧j3 g S k W bd.ins.l)
theorem Vi (g:Gr)(hv:gA g)(k:Int)(hk:0≤k∧k≤4000):af 42 [g.av,i64 k] (fun ae=>∃x b,ae = .ret (.ao [x,.bool b])∧∃v,mN x v∧EG g k v b):=by
 refine zw func42 ?_;have hg:=hv.ok;have hil:=g.ins.h;have hfew:=hg.eT;have hregs:=hg.ah;have hge:=mh hg;have hnw:=qp hg;refine zg ?_
 repeat' ((first|(refine zp ?_ ?_<;>first|exact⟨⟩|intro h)|(refine DC.pure rfl (Iy g hg) ?_;rintro _ ⟨S,rfl,hS⟩)|(refine DC.pure rfl (ZO g) ?_;rintro _ (⟨rfl,dy⟩|⟨rfl,dy⟩))|(refine DC.pure rfl (Xn g hg S hS.toShS) ?_;rintro _ ⟨n,rfl,hn⟩))<;>refine zg ?_)
 all_goals first
  | exact⟨_,_,rfl,_,.r,.inl ⟨rfl,rfl⟩⟩
  | skip
 have hsl:=hS.len;refine zk ?_
 repeat' ((first|refine Rq.mk (su (l':=g.ah) rfl rfl aa ab rfl) ?_|refine Rq.mk (su (l':=k) rfl rfl aa ab rfl) ?_|refine az.mk _ (qw hS.toShS (k:=0) (zbq _) rfl rfl) ?_|(refine zh rfl (mf (aK S 0) (by rw[eK hS.toShS (zbq _)];exact hnw) g.ah ⟨hregs.1,(by rw[eK hS.toShS (zbq _)];exact hge)⟩) ?_;rintro _ rfl))<;>refine zk ?_)
 have hL1:((bn (aK S 0) g.ah.toNat).length:Int)≤k:=by
  rcases zbX g.ins.l.length with h0|h0
  . have:bn (aK S 0) g.ah.toNat=[]:=zcE.2 fun x hx=>by
     obtain⟨r,_,_,hb⟩:=nw.1 hx;have:=hS.last dy.1 r;rw[h0,hb] at this;cases this
    rw[this];simp;omega
  . have h1 := (hn.up 0 h0).1
    have h2:(sx g S 0)=bn (aK S 0) g.ah.toNat:=rfl;rw[h2] at h1;omega
 have hLr:∀(j:Nat) (h:j<(bn (aK S 0) g.ah.toNat).length),0≤(bn (aK S 0) g.ah.toNat)[j]∧(bn (aK S 0) g.ah.toNat)[j]<g.ah:=fun j h=>nr (za9 h)
 generalize hLd:bn (aK S 0) g.ah.toNat=L at hL1 hLr
 refine DW.aO aC aD [2,4,5,6,7,8,9,10,45,46] [26,22] 200 (fun x:{x:Nat×List Bool×List Int // pz g k x.1 x.2.1 x.2.2∧vF x.2.2 k L x.1∧x.1≤L.length}=>[(47,i64 x.1.1)]) (fun x=>[(26,.arr 1 (x.1.2.1.map bc)),(22,.arr 1 (x.1.2.2.map ic))]) [] (fun x=>L.length+1 - x.1.1) (⟨(0,replicate k.toNat false,replicate g.ah.toNat 0),⟨ag,ag,by rw[AZ];exact zbm _⟩,(fun r hr=>by cases hr),zbq _⟩) ?_
 conv=>whnf
 refine⟨?_,fun x=>?_⟩
 . conv => whnf
   (exact zG)
 rcases x with⟨⟨m,mk,pl⟩,hx,hk1,hmb⟩
 dsimp only at hx hk1 hmb;have hmkl:=hx.ml;have hpll:=hx.pl;refine zk ?_
 repeat' ((first|refine bR (eV (l:=pl) hr3) ?_|refine bR (eV (l:=mk) aa) ?_|refine bR (xW hr3) ?_|refine az.mk _ (bO (l:=L) (i:=m) aa) ?_|(refine zp ?_ ?_<;>first|exact⟨⟩|intro h)|refine zd func86 ?_|(refine DV.pX (rs:=[26]) (aJ (fj (f:=bc) (l:=mk) (n:=19) (fun _=>rfl) rfl rfl hmkl.symm) rfl) (xp ⟨mk,aa⟩) (DF (qL (n:=19) (f:=bc) (l:=mk) rfl (fun _=>rfl)) rfl) ?_;rintro _ ⟨i,rfl,hi⟩;have hi2:=BE hx aa hi;have hr2:=hLr m aa;have hr3:((L[m]'aa)).toNat<pl.length:=aa;refine⟨_,rfl,rfl,?_⟩))<;>refine zk ?_)
 . (refine⟨⟨(m+1,mk.set i.toNat true,pl.set (L[m]'aa).toNat i),hx.put,hk1.step aa hr3 hi2,bH⟩,nW,rfl,bH⟩)
 have hin0 : ∀ r : Nat, (r : Int) < g.ah->hJ S 0 r->eO pl k (r : Int) := fun r hr hb => hk1 _ (by
  rw[zbj aa,<-hLd];exact nw.2 ⟨r,rfl,aa,hb⟩)
 refine DW.aO aC aD [2,4,5,6,7,8,9,10,56,57] [26,22,18] 4000 (fun x:{x:Nat×List Bool×List Int×List Ins // gZ g S k x.1 x.2.1 x.2.2.1 x.2.2.2}=>[(58,i64 x.1.1)]) (fun x=>[(26,.arr 1 (x.1.2.1.map bc)),(22,.arr 1 (x.1.2.2.1.map ic)),(18,.arr 2 [[i64 k,fu 2000 29 (x.1.2.2.2.map Ins.cells)]])]++fq 2000 29 (x.1.2.2.2.map Ins.cells)) [(2000,.cell 18 1)] (fun x=>g.ins.l.length+1 - x.1.1) (⟨(0,mk,pl,[]),gZ.start hmkl hpll hin0⟩) ?_
 conv=>whnf
 refine⟨?_,fun x=>?_⟩
 . conv => whnf
   (exact zG)
 rcases x with⟨⟨m,mk,pl,_|⟨z,acc⟩⟩,hx⟩
 all_goals
  have hmkl:=hx.ml;have hpll:=hx.pn;have hmb:=hx.le;have i_len:=hx.len;dsimp only at hmkl hpll hmb i_len;simp only[zbp,zbd] at i_len
 . have hx' : gZ g S k m mk pl ([]) := hx
   have hsl2:∀(h:m<g.ins.l.length),m+1<(S.map fun ws=>[gb ws]).length:=fun h=>by rw[zba];omega
   refine zk ?_
   repeat' ((first|refine az.mk _ (bO (l:=g.ins.l) (i:=m) aa) ?_|refine zf ?_|refine Rq.mk (HV (m:=m) (hsl2 aa) aa) ?_|refine az.mk _ (Jt hS.toShS (m:=m) aa aa) ?_|(refine zp ?_ ?_<;>first|exact⟨⟩|intro h)|(refine DC.pure rfl (oY (g.ins.l[m]'aa)) ?_;rintro _ rfl)|(refine DC.G9 (k:=22) (JG (g.ins.l[m]'aa) pl hpll aa (hg.fH _ (za9 _)) (JE hv hpll (za9 _))) rfl rfl rfl ye ?_;rintro _ H' _ ⟨rfl,h0⟩;refine⟨H3 _,_,h0,ye,?_⟩)|(refine zh rfl (mf (aK S (m+1)) (by rw[eK hS.toShS aa];exact hnw) g.ah ⟨hregs.1,(by rw[eK hS.toShS aa];exact hge)⟩) ?_;rintro _ rfl))<;>refine zk ?_)
   . have hlt : m < g.ins.l.length := aa
     have hd:0≤aH (g.ins.l[m]'hlt):=h;have hdr:=hg.gx _ (za9 hlt);have hn2:=(hn.up m hlt).2;have hcnt:=I1 hg hS hlt hd;have hLr2:∀(j:Nat) (h:j<(bn (aK S (m+1)) g.ah.toNat).length),0≤(bn (aK S (m+1)) g.ah.toNat)[j]∧(bn (aK S (m+1)) g.ah.toNat)[j]<g.ah:=fun j h=>nr (za9 h)
     have hik2:∀(j:Nat) (h:j<(bn (aK S (m+1)) g.ah.toNat).length) (h2:(bn (aK S (m+1)) g.ah.toNat)[j].toNat<pl.length),¬(bn (aK S (m+1)) g.ah.toNat)[j]=aH (g.ins.l[m]'hlt)->0≤pl[(bn (aK S (m+1)) g.ah.toNat)[j].toNat]∧pl[(bn (aK S (m+1)) g.ah.toNat)[j].toNat]<k:=fun j h h2 cF=>by
      obtain⟨r,e,h3,h4⟩:=nw.1 (za9 h);have h5:=hx'.jM r aa (xD dy hS hlt h4 (by rw[<-e];exact cF))
      unfold eO at h5;rw[<-e,p_ h2] at h5;exact h5
     have hLl:(bn (aK S (m+1)) g.ah.toNat).length≤1000:=by have:=@sf (aK S (m+1)) g.ah.toNat;omega
     generalize hLd2:(bn (aK S (m+1)) g.ah.toNat)=L2 at hLr2 hik2 hcnt hLl
     refine DW.aO aC aD [2,4,5,6,7,8,9,10,13,14,15,16,56,57,58,59,60,61,62,63,64,65,66,67,68,69,70,71,72,73,74,75,76,77,78,79] [26] 200 (fun y:{y:Nat×List Bool // y.2.length=k.toNat∧lA y.2≤lz L2 (aH (g.ins.l[m]'hlt)) y.1∧y.1≤L2.length∧mM L2 pl (aH (g.ins.l[m]'hlt)) y.1 y.2}=>[(80,i64 y.1.1)]) (fun y=>[(26,.arr 1 (y.1.2.map bc))]) [] (fun y=>L2.length+1 - y.1.1) (⟨(0,replicate k.toNat false),ag,by rw[AZ];exact zbq _,zbq _,(fun r hr=>by cases hr)⟩) ?_
     conv=>whnf
     refine⟨?_,fun y=>?_⟩
     . conv => whnf
       (exact zG)
     rcases y with⟨⟨j,mk1⟩,hy1,hy2,hy3,hy4⟩
     dsimp only at hy1 hy2 hy3 hy4;refine zk ?_
     repeat' ((first|refine az.mk _ (bO (l:=L2) (i:=j) aa) ?_|refine Rq.mk (r9 (hLr2 j aa) aa) ?_|(refine bR (eV (l:=pl) mF) ?_)|(refine Rq.mk (r9 (hik2 j aa mF h) aa) ?_)|(refine bR (eV (l:=mk1) (by have:=hik2 j aa mF h;omega)) ?_)|(refine zp ?_ ?_<;>first|exact⟨⟩|intro h))<;>refine zk ?_)
     . (refine⟨⟨(j+1,mk1),hy1,by rw[wC aa,if_neg (by rw[h];simp)];exact hy2,bH,hy4.skip aa h⟩,nW,rfl,bH⟩)
     . have cF := h
       have hik:=hik2 j aa mF cF
       (refine⟨⟨(j+1,mk1.set (pl[(L2[j]'aa).toNat]'mF).toNat true),by rw[zbP];exact hy1,by rw[wC aa,if_pos cF];exact zbu wD (Nat.add_le_add_right hy2 1),bH,hy4.put aa (by rw[p_]) aa⟩,nW,rfl,bH⟩)
     . have hcl : ((lz L2 (aH (g.ins.l[m]'hlt)) j : Nat) : Int) < k := by rw [FZ aa]; omega
       have hx:pz g k (lz L2 (aH (g.ins.l[m]'hlt)) j) mk1 pl:=⟨hy1,hpll,hy2⟩;have hmkl:=hy1;refine zk ?_
       repeat' ((first|refine bR (eV (l:=pl) hr3) ?_|refine bR (eV (l:=mk1) aa) ?_|refine bR (xW hr3) ?_|refine zf ?_|refine zd func86 ?_|(refine DV.pX (rs:=[26]) (aJ (fj (f:=bc) (l:=mk1) (n:=19) (fun _=>rfl) rfl rfl hmkl.symm) rfl) (xp ⟨mk1,aa⟩) (DF (qL (n:=19) (f:=bc) (l:=mk1) rfl (fun _=>rfl)) rfl) ?_;rintro _ ⟨i,rfl,hi⟩;have hi2:=BE hx hcl hi;have hr2:=(And.intro hd hdr);have hr3:((aH (g.ins.l[m]'hlt))).toNat<pl.length:=aa;refine⟨_,rfl,rfl,?_⟩))<;>refine zk ?_)
       (refine⟨⟨(m+1,mk1.set i.toNat true,pl.set (aH (g.ins.l[m]'hlt)).toNat i,[{ gG (g.ins.l[m]'hlt) pl with d:=i }]),hx'.put hg dy hS hlt hd hi hi2 hy1 hLd2 hy4 aa (x:={ gG (g.ins.l[m]'hlt) pl with d:=i }) rfl rfl⟩,nW,rfl,bH⟩)
   . (refine⟨⟨(m+1,mk,pl,[gG (g.ins.l[m]'aa) pl]),hx'.keep dy hS aa aa (x:=gG (g.ins.l[m]'aa) pl) rfl rfl⟩,nW,rfl,bH⟩)
   . obtain ⟨W, _, hW⟩ := hx'.fl
     exact⟨_,_,rfl,(Bd.mk k ⟨[],ab⟩).av,.inr ⟨_,_,rfl,rfl,.r,.n,trivial⟩,.inr ⟨rfl,_,S,W,rfl,rfl,hS,hW.LP dy aa⟩⟩
 . have hx' : gZ g S k m mk pl (z :: acc) := hx
   have hsl2:∀(h:m<g.ins.l.length),m+1<(S.map fun ws=>[gb ws]).length:=fun h=>by rw[zba];omega
   refine zk ?_
   repeat' ((first|refine az.mk _ (bO (l:=g.ins.l) (i:=m) aa) ?_|refine zf ?_|(refine Rq.mk (eP 304 2000 ag rfl rfl lQ ab) ?_)|refine Rq.mk (HV (m:=m) (hsl2 aa) aa) ?_|refine az.mk _ (Jt hS.toShS (m:=m) aa aa) ?_|(refine zp ?_ ?_<;>first|exact⟨⟩|intro h)|(refine DC.pure rfl (oY (g.ins.l[m]'aa)) ?_;rintro _ rfl)|(refine DC.G9 (k:=22) (JG (g.ins.l[m]'aa) pl hpll aa (hg.fH _ (za9 _)) (JE hv hpll (za9 _))) rfl rfl rfl ye ?_;rintro _ H' _ ⟨rfl,h0⟩;refine⟨H3 _,_,h0,ye,?_⟩)|(refine zh rfl (mf (aK S (m+1)) (by rw[eK hS.toShS aa];exact hnw) g.ah ⟨hregs.1,(by rw[eK hS.toShS aa];exact hge)⟩) ?_;rintro _ rfl))<;>refine zk ?_)
   . have hlt : m < g.ins.l.length := aa
     have hd:0≤aH (g.ins.l[m]'hlt):=h;have hdr:=hg.gx _ (za9 hlt);have hn2:=(hn.up m hlt).2;have hcnt:=I1 hg hS hlt hd;have hLr2:∀(j:Nat) (h:j<(bn (aK S (m+1)) g.ah.toNat).length),0≤(bn (aK S (m+1)) g.ah.toNat)[j]∧(bn (aK S (m+1)) g.ah.toNat)[j]<g.ah:=fun j h=>nr (za9 h)
     have hik2:∀(j:Nat) (h:j<(bn (aK S (m+1)) g.ah.toNat).length) (h2:(bn (aK S (m+1)) g.ah.toNat)[j].toNat<pl.length),¬(bn (aK S (m+1)) g.ah.toNat)[j]=aH (g.ins.l[m]'hlt)->0≤pl[(bn (aK S (m+1)) g.ah.toNat)[j].toNat]∧pl[(bn (aK S (m+1)) g.ah.toNat)[j].toNat]<k:=fun j h h2 cF=>by
      obtain⟨r,e,h3,h4⟩:=nw.1 (za9 h);have h5:=hx'.jM r aa (xD dy hS hlt h4 (by rw[<-e];exact cF))
      unfold eO at h5;rw[<-e,p_ h2] at h5;exact h5
     have hLl:(bn (aK S (m+1)) g.ah.toNat).length≤1000:=by have:=@sf (aK S (m+1)) g.ah.toNat;omega
     generalize hLd2:(bn (aK S (m+1)) g.ah.toNat)=L2 at hLr2 hik2 hcnt hLl
     refine DW.aO aC aD [2,4,5,6,7,8,9,10,13,14,15,16,56,57,58,59,60,61,62,63,64,65,66,67,68,69,70,71,72,73,74,75,76,77,78,79] [26] 200 (fun y:{y:Nat×List Bool // y.2.length=k.toNat∧lA y.2≤lz L2 (aH (g.ins.l[m]'hlt)) y.1∧y.1≤L2.length∧mM L2 pl (aH (g.ins.l[m]'hlt)) y.1 y.2}=>[(80,i64 y.1.1)]) (fun y=>[(26,.arr 1 (y.1.2.map bc))]) [] (fun y=>L2.length+1 - y.1.1) (⟨(0,replicate k.toNat false),ag,by rw[AZ];exact zbq _,zbq _,(fun r hr=>by cases hr)⟩) ?_
     conv=>whnf
     refine⟨?_,fun y=>?_⟩
     . conv => whnf
       (exact zG)
     rcases y with⟨⟨j,mk1⟩,hy1,hy2,hy3,hy4⟩
     dsimp only at hy1 hy2 hy3 hy4;refine zk ?_
     repeat' ((first|refine az.mk _ (bO (l:=L2) (i:=j) aa) ?_|refine Rq.mk (r9 (hLr2 j aa) aa) ?_|(refine bR (eV (l:=pl) mF) ?_)|(refine Rq.mk (r9 (hik2 j aa mF h) aa) ?_)|(refine bR (eV (l:=mk1) (by have:=hik2 j aa mF h;omega)) ?_)|(refine zp ?_ ?_<;>first|exact⟨⟩|intro h))<;>refine zk ?_)
     . (refine⟨⟨(j+1,mk1),hy1,by rw[wC aa,if_neg (by rw[h];simp)];exact hy2,bH,hy4.skip aa h⟩,nW,rfl,bH⟩)
     . have cF := h
       have hik:=hik2 j aa mF cF
       (refine⟨⟨(j+1,mk1.set (pl[(L2[j]'aa).toNat]'mF).toNat true),by rw[zbP];exact hy1,by rw[wC aa,if_pos cF];exact zbu wD (Nat.add_le_add_right hy2 1),bH,hy4.put aa (by rw[p_]) aa⟩,nW,rfl,bH⟩)
     . have hcl : ((lz L2 (aH (g.ins.l[m]'hlt)) j : Nat) : Int) < k := by rw [FZ aa]; omega
       have hx:pz g k (lz L2 (aH (g.ins.l[m]'hlt)) j) mk1 pl:=⟨hy1,hpll,hy2⟩;have hmkl:=hy1;refine zk ?_
       repeat' ((first|refine bR (eV (l:=pl) hr3) ?_|refine bR (eV (l:=mk1) aa) ?_|refine bR (xW hr3) ?_|refine zf ?_|(refine Rq.mk (eP 304 2000 ag rfl rfl lQ ab) ?_)|refine zd func86 ?_|(refine DV.pX (rs:=[26]) (aJ (fj (f:=bc) (l:=mk1) (n:=19) (fun _=>rfl) rfl rfl hmkl.symm) rfl) (xp ⟨mk1,aa⟩) (DF (qL (n:=19) (f:=bc) (l:=mk1) rfl (fun _=>rfl)) rfl) ?_;rintro _ ⟨i,rfl,hi⟩;have hi2:=BE hx hcl hi;have hr2:=(And.intro hd hdr);have hr3:((aH (g.ins.l[m]'hlt))).toNat<pl.length:=aa;refine⟨_,rfl,rfl,?_⟩))<;>refine zk ?_)
       (refine⟨⟨(m+1,mk1.set i.toNat true,pl.set (aH (g.ins.l[m]'hlt)).toNat i,z::(acc++[{ gG (g.ins.l[m]'hlt) pl with d:=i }])),hx'.put hg dy hS hlt hd hi hi2 hy1 hLd2 hy4 aa (x:={ gG (g.ins.l[m]'hlt) pl with d:=i }) rfl rfl⟩,nW,rfl,bH⟩)
   . (refine⟨⟨(m+1,mk,pl,z::(acc++[gG (g.ins.l[m]'aa) pl])),hx'.keep dy hS aa aa (x:=gG (g.ins.l[m]'aa) pl) rfl rfl⟩,nW,rfl,bH⟩)
   . generalize hg2 : snap _ 20 _ = rr
     obtain rfl:=hg2.symm.trans (o3 (n:=19) (lM (n:=18) (aJ rfl (aJ (gW (f:=Ins.cells) (n:=17) (fun _=>rfl) rfl) rfl))) rfl)
     conv=>whnf
     obtain⟨W,_,hW⟩:=hx'.fl;exact⟨_,_,rfl,(Bd.mk k ⟨z::acc,by rw[zbd,i_len];omega⟩).av,.r,.inr ⟨rfl,_,S,W,rfl,rfl,hS,hW.LP dy aa⟩⟩
theorem Vh (g:Gr)(hv:gA g)(k:Int)(hk:0≤k∧k≤4000):af 42 [g.av,i64 k] (fun ae=>∃v b,ae = .ret (.ao [v,.bool b])∧EG g k v b):=by
 refine(Vi g hv k hk).oG ?_
 rintro _ ⟨x,b,rfl,v,h1,h2⟩
 exact⟨_,.ao [v,.bool b],rfl,.inr ⟨_,_,rfl,rfl,h1,.r,trivial⟩,v,b,rfl,h2⟩
end Go.Ago
