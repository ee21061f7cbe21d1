/-
  Part A32: lemmas, each with its own conditions.
-/
import Derived.Test.YthaolifcglpkdaaGreatDoorA31
set_option maxRecDepth 100000
set_option maxHeartbeats 0
set_option linter.all false
section
namespace Go.Ago
open Go.Proofs List Nat Tryz
attribute [local irreducible] bN bM aZ bK b_ wr bp bL comp DC DP DW DV
attribute [local irreducible] dJ ct aL cH dP dI ec dX cB dM dR bV bn bB eA fS lV
def nX (g:Gr)(C:List (List aA))(a:List Int)(n:Nat):Prop:=∀d r:Nat,d<n->(r:Int)<g.aj->bB (aK C d) r=true->a.getD d 0≠a.getD r 0
def pj (d:Nat)(L:List Int)(a:List Int)(n:Nat):Prop:=∀r∈L.take n,a.getD d 0≠a.getD r.toNat 0
theorem nX.nil {g C a}:nX g C a 0:=fun _ _ h=>absurd h (ag)
theorem pj.nil {d L a}:pj d L a 0:=fun _ h=>by cases h
theorem pj.step {d:Nat}{L b:List Int}{n:Nat}(h:pj d L b n)(c:n<L.length)(e:b.getD d 0≠b.getD L[n].toNat 0):pj d L b (n+1):=fun r a=>by
 rw[take_succ_eq_append_getElem c] at *;rcases mem_append.1 a with a|a
 . exact h r a
 grind
theorem nX.step {g:Gr}{C:List (List aA)}{a:List Int}{n:Nat}(h:nX g C a n)(j:n<C.length)(f:pj n (bn C[n] g.aj.toNat) a (bn C[n] g.aj.toNat).length):nX g C a (n+1):=fun d r i c e=>by
 rcases Nat.lt_or_ge d n with b|b
 . exact h d r b c e
 . obtain rfl : d = n := aa
   have := f r (by
    rw[take_length];refine ny.2 ⟨r,rfl,aa,?_⟩
    grind)
   grind
theorem nX.apart {g:Gr}(f:cM g){S C:List (List aA)}{c:List Int}(j:nZ g S C g.ins.l.length)(h:nX g C c g.aj.toNat):Nr g S (fun r=>c.getD r 0):=fun k b n i r d m a=>by
 have:=(j k r b _ n i d m a).1;have o:=f.ga _ (getElem_mem b);exact h _ r aa d this
theorem qc {l:List Int}{n:Nat}(h:n<l.length):l.getD n 0=l[n]:=by grind
theorem yh {n:Int}{a:List Int}(e:(a.length:Int)=n)(d:∀t∈a,0≤t){r:Int}(h:r = -1∨(0≤r∧r<n)):rj a r:=by
 rcases h with h|⟨b,c⟩
 . exact .inl h
 exact .inr ⟨b,aa,by simp_all⟩
theorem JS {g:Gr}{f:List Int}(k:gz g)(e:(f.length:Int)=g.aj)(c:∀t∈f,0≤t){i:Ins}(hi:i∈g.ins.l):zU i f:=by
 have h:=k.ins i hi;exact⟨yh e c h.d,yh e c h.a,yh e c h.b,fun r j=>yh e c (.inr (h.l r j))⟩
theorem r9 {x n:Int}{m:Nat}(h:0≤x∧x<n)(e:n=(m:Int)):bp x m=true:=by rw[hZ];omega
theorem J7 {g:Gr}{C:List (List aA)}(a:cM g)(b:iT g C){k:Nat}(h:k<C.length):C[k].length≤1∧g.aj≤64 * (C[k].length:Int):=by
 have:=b.row _ (getElem_mem h);have:=mj a;have:=qt a;omega
attribute [local irreducible] nX pj
end Go.Ago
end
namespace Go.Ago
open Go.Proofs List Nat Tryz
attribute [local irreducible] bN bM aZ bK b_ wr bp bL comp DC DP DW DV
abbrev OL (l:List Bool):AV := .ak 1 (l.map fun b=>[.bool b])
def kW (l:List Bool)(n:Nat):Prop:=∀(j:Nat) (h:j<l.length),j<n->l[j]=true
theorem kW.nil {l}:kW l 0:=fun _ _ h=>aa
theorem kW.step {l n}(h:kW l n)(b:n<l.length)(c:l[n]=true):kW l (n+1):=fun j d e=>by
 rcases Nat.lt_or_ge j n with a|a
 . exact h j _ a
 grind
def kA (l:List Bool)(n:Int):Prop:=(n = -1∧kW l l.length)∨(0≤n∧n<l.length∧l.getD n.toNat true=false)
theorem kA.no {l:List Bool}{n:Nat}(h:kW l n)(b:l.length≤n):kA l (-1) := .inl ⟨rfl,fun j a _=>h j _ aa⟩
theorem kA.yes {l:List Bool}{n:Nat}(a:n<l.length)(h:l[n]=false):kA l (n:Int) := .inr ⟨aa,aa,by grind⟩
theorem xf (l:BL Bool):af 87 [OL l.l,.bool false] (eX (kA l.l)):=by
 refine zw func87 ?_;have b:=l.h
 conv=>whnf
 refine DW.aO aC aD [0,1,4,7] [] 0 (fun i:{i:Nat // kW l.l i}=>[(8,i64 i.1)]) (fun _=>[]) [] (fun i=>l.l.length+1 - i.1) (⟨0,kW.nil⟩) ?_
 refine zl fun i=>?_
 refine zg ?_
 repeat' ((refine zp ?_ ?_<;>intro h)<;>refine zg ?_)
 all_goals first|exact zi ⟨i.1+1,kW.step i.2 aa h⟩|exact⟨_,rfl,kA.yes aa h⟩|exact⟨_,rfl,kA.no i.2 aa⟩
end Go.Ago
namespace Go.Ago
open Go.Proofs List Nat Tryz
attribute [local irreducible] bN bM aZ bK b_ wr bp bL comp DC DP DW DV
attribute [local irreducible] dJ ct aL cH dP dI ec dX cB dM dR bV bn bB eA fS lV dc aX aT aH dS
abbrev bc (b:Bool):List AV:=[.bool b]
abbrev mg (i:Ins):Int×Int×Int:=(i.op,i.p,i.n)
theorem jD {ρ:Nat->Nat}{s:Nat}{l:List Bool}{es:List (List AV)}(h:es=l.map bc):an.arr s es=an.cp ρ (.arr s (l.map bc)):=by
 subst h;simp only[an.cp,map_map];congr 1
theorem vV {n s:Nat}{l:List Bool}:an.lt n (.arr s (l.map bc)):=by show(List.all _ _)=true;simp[AV.l1,AV.la,AV.l0]
def eO (pl:List Int)(k r:Int):Prop:=0≤pl.getD r.toNat 0∧pl.getD r.toNat 0<k
structure pB (g:Gr)(k:Int)(n:Nat)(mk:List Bool)(pl:List Int):Prop where
 ml:mk.length=k.toNat
 pl:pl.length=g.aj.toNat
 FJ:lA mk≤n
theorem FK:∀{l:List Bool},kW l l.length->lA l=l.length
 | [],_=>rfl
 | b :: l, h => by
   have h0:b=true:=h 0 ag ag;have h1:=@FK l fun j hj hl=>by have:=h (j+1) ez ez;simpa using this
   subst h0;unfold lA at h1 ⊢;rw[count_cons_self,h1,length_cons]
theorem Bq {g:Gr}{k:Int}{n:Nat}{mk:List Bool}{pl:List Int}(h:pB g k n mk pl)(hn:(n:Int)<k){i:Int}(hi:kA mk i):0≤i∧i<k:=by
 have h1:=h.ml;rcases hi with⟨rfl,ha⟩|⟨h2,h3,_⟩
 . have:=FK ha;have:=h.FJ;omega
 . omega
theorem uw {pl:List Int}{i j:Nat}{v:Int}(hi:i<pl.length):(pl.set i v).getD j 0=if j=i then v else pl.getD j 0:=by
 by_cases h:j=i
 . subst h;simp[getD,hi]
 . simp[getD,getElem?_set_ne (Ne.symm h),h]
theorem pB.put {g:Gr}{k:Int}{n:Nat}{mk:List Bool}{pl:List Int}(h:pB g k n mk pl){r i:Int}:pB g k (n+1) (mk.set i.toNat true) (pl.set r.toNat i):=
 ⟨by rw[length_set,h.ml],by rw[length_set,h.pl],by have:=@wy mk i.toNat;have:=h.FJ;omega⟩
theorem eO.put {pl:List Int}{k r i s:Int}(hr:r.toNat<pl.length)(hi:0≤i∧i<k)(hs:s.toNat≠r.toNat->eO pl k s):eO (pl.set r.toNat i) k s:=by
 unfold eO;rw[uw hr];split
 . exact hi
 . rename_i h;exact hs h
def vy (pl:List Int)(k:Int)(L:List Int)(n:Nat):Prop:=∀r∈L.take n,eO pl k r
theorem vy.step {pl:List Int}{k i:Int}{L:List Int}{n:Nat}(h:vy pl k L n)(hn:n<L.length)(hr:L[n].toNat<pl.length)(hi:0≤i∧i<k):vy (pl.set L[n].toNat i) k L (n+1):=fun s hs=>by
 refine eO.put hr hi fun cF=>?_
 rw[take_succ_eq_append_getElem hn] at hs;rcases mem_append.1 hs with hs|hs
 . exact h s hs
 . rw[mem_singleton.1 hs] at cF;exact absurd rfl cF
theorem xM {l:List Int}{r:Nat}{x:List AV}(h:r<l.length):((l.map ic).set (0+r) x)[0+r]? = some x:=by simp[h]
theorem xc {pl:List Int}{r:Nat}{i:Int}:(pl.map ic).set (0+r) [i64 i]=(pl.set r i).map ic:=by rw[map_set,Nat.zero_add]
theorem vW {mk:List Bool}{r:Nat}{b:Bool}:(mk.map bc).set (0+r) [.bool b]=(mk.set r b).map bc:=by rw[map_set,Nat.zero_add]
def lz (L:List Int)(d:Int)(j:Nat):Nat:=(L.take j).countP fun r=>decide (r≠d)
theorem wx {L:List Int}{d:Int}{j:Nat}(h:j<L.length):lz L d (j+1)=lz L d j+(if L[j]≠d then 1 else 0):=by
 unfold lz;rw[take_succ_eq_append_getElem h,countP_append];simp[countP_cons]
theorem FI {L:List Int}{d:Int}{j:Nat}(h:L.length≤j):lz L d j=L.countP fun r=>decide (r≠d):=by
 unfold lz;rw[take_of_length_le h]
theorem FZ (p:Nat->Bool)(d:Nat):∀n,(List.range n).countP (fun x=>p x || decide (x=d))=(List.range n).countP (fun x=>p x && decide (x≠d))+(if d<n then 1 else 0)
 | 0=>ag
 | n + 1 => by
   rw[range_succ,countP_append,countP_append,FZ p d n];simp only[countP_cons,countP_nil,Bool.or_eq_true,Bool.and_eq_true,decide_eq_true_eq]
   by_cases h1:n=d
   . subst h1;simp
   . by_cases h2 : d < n
     . have : d < n + 1 := aa
       cases hp:p n<;>simp[h1,h2,this]<;>omega
     . have : ¬ d < n + 1 := aa
       cases hp:p n<;>simp[h1,h2,this]
theorem IG {g:Gr}(hg:cM g){S:List (List aA)}(hS:fy g S){m:Nat}(hm:m<g.ins.l.length)(hd:0≤aH g.ins.l[m]) :
 ((bn (aK S (m+1)) g.aj.toNat).countP fun r=>decide (r≠aH g.ins.l[m]))+1=(oH g S m).length:=by
 have hs:=hg.ga _ (getElem_mem hm);have hge:=mj hg;have hrow:=eJ hS.toShS (k:=m+1) aa;rw[II hm hd];unfold bn;rw[length_map,countP_map,countP_filter,<-countP_eq_length_filter];have e1:(List.range g.aj.toNat).countP (bB (er (aK S (m+1)) (aH g.ins.l[m]).toNat))=(List.range g.aj.toNat).countP (fun x=>bB (aK S (m+1)) x || decide (x=(aH g.ins.l[m]).toNat)):=by
  refine countP_congr fun x hx=>?_
  rw[v8 (by rw[hrow];omega)]
  simp only[Bool.or_eq_true,decide_eq_true_eq];exact⟨fun h=>h.elim (fun h => .inr aa) .inl,fun h=>h.elim .inr (fun h => .inl aa)⟩
 rw[e1,FZ,if_pos aa]
 congr 1
 refine countP_congr fun x hx=>?_
 simp only[Function.comp_apply,Bool.and_eq_true,decide_eq_true_eq,ne_eq];exact⟨fun h=>⟨h.2,aa⟩,fun h=>⟨aa,h.1⟩⟩
def dY (i:Ins)(w w':List Int):Ins:={ gG i w with d:=if 0≤aH i then w'.getD i.d.toNat 0 else i.d }
structure FlatP (g:Gr)(S:List (List aA))(k:Int)(W:Nat->List Int)(m:Nat)(B:List Ins):Prop where
 len:B.length=m
 le:m≤g.ins.l.length
 row:∀(p:Nat) (h:p<g.ins.l.length) (h':p<B.length),B[p]=dY g.ins.l[p] (W p) (W (p+1))
 jK:∀(p:Nat),p≤m->∀r:Nat,(r:Int)<g.aj->hP S p r->eO (W p) k (r:Int)
 dst:∀(p:Nat) (h:p<g.ins.l.length),p<m->0≤aH g.ins.l[p]->eO (W (p+1)) k (aH g.ins.l[p])
 sep:∀(p:Nat) (h:p<g.ins.l.length),p<m->cQ g.ins.l[p]->0≤aH g.ins.l[p]->∀r:Nat,(r:Int)<g.aj->hP S (p+1) r->(r:Int)≠aH g.ins.l[p]->(W (p+1)).getD r 0≠(W (p+1)).getD (aH g.ins.l[p]).toNat 0
 HR:∀(p:Nat) (h:p<g.ins.l.length),p<m->cQ g.ins.l[p]->∀r:Nat,(r:Int)<g.aj->hP S (p+1) r->(r:Int)≠aH g.ins.l[p]->(W (p+1)).getD r 0=(W p).getD r 0
structure j2 (g:Gr)(S:List (List aA))(k:Int)(W:Nat->List Int)(B:List Ins):Prop extends FlatP g S k W g.ins.l.length B where
 hJ:∀(p:Nat),∀t∈aX g p,W t.toNat=W p
structure gZ (g:Gr)(S:List (List aA))(k:Int)(m:Nat)(mk:List Bool)(pl:List Int)(rows:List Ins):Prop where
 ml:mk.length=k.toNat
 pn:pl.length=g.aj.toNat
 fl:∃W:Nat->List Int,W m=pl∧FlatP g S k W m rows
theorem gZ.jK {g:Gr}{S:List (List aA)}{k:Int}{m:Nat}{mk:List Bool}{pl:List Int}{rows:List Ins}(h:gZ g S k m mk pl rows):∀r:Nat,(r:Int)<g.aj->hP S m r->eO pl k (r:Int):=by
 obtain⟨W,rfl,hW⟩:=h.fl;exact hW.jK m (Nat.le_refl _)
theorem gZ.le {g:Gr}{S:List (List aA)}{k:Int}{m:Nat}{mk:List Bool}{pl:List Int}{rows:List Ins}(h:gZ g S k m mk pl rows):m≤g.ins.l.length:=by obtain⟨W,_,hW⟩:=h.fl;exact hW.le
theorem gZ.len {g:Gr}{S:List (List aA)}{k:Int}{m:Nat}{mk:List Bool}{pl:List Int}{rows:List Ins}(h:gZ g S k m mk pl rows):rows.length=m:=by obtain⟨W,_,hW⟩:=h.fl;exact hW.len
theorem gZ.start {g:Gr}{S:List (List aA)}{k:Int}{mk:List Bool}{pl:List Int}(h1:mk.length=k.toNat)(h2:pl.length=g.aj.toNat)(h3:∀r:Nat,(r:Int)<g.aj->hP S 0 r->eO pl k (r:Int)):gZ g S k 0 mk pl []:=
 ⟨h1,h2,fun _=>pl,rfl,rfl,zero_le _,(fun p _ h=>absurd h (not_lt_zero _)),(fun p hp=>by obtain rfl:=le_zero.1 hp;exact h3),(fun p _ h=>absurd h (not_lt_zero _)),(fun p _ h=>absurd h (not_lt_zero _)),fun p _ h=>absurd h (not_lt_zero _)⟩
def mO (L pl:List Int)(d:Int)(j:Nat)(mk:List Bool):Prop:=∀r∈L.take j,r≠d->mk.getD (pl.getD r.toNat 0).toNat false=true
theorem mO.skip {L pl:List Int}{d:Int}{j:Nat}{mk:List Bool}(h:mO L pl d j mk)(hj:j<L.length)(he:L[j]=d):mO L pl d (j+1) mk:=fun r hr cF=>by
 rw[take_succ_eq_append_getElem hj] at hr;rcases mem_append.1 hr with hr|hr
 . exact h r hr cF
 . rw[mem_singleton.1 hr] at cF;exact absurd he cF
theorem mO.put {L pl:List Int}{d:Int}{j:Nat}{mk:List Bool}(h:mO L pl d j mk)(hj:j<L.length){x:Nat}(hx:x=(pl.getD L[j].toNat 0).toNat)(hl:x<mk.length):mO L pl d (j+1) (mk.set x true):=fun r hr cF=>by
 rw[getD_eq_getElem?_getD,getElem?_set];rw[take_succ_eq_append_getElem hj] at hr
 by_cases e:x=(pl.getD r.toNat 0).toNat
 . rw[if_pos e,if_pos hl];rfl
 . rw [if_neg e, <-getD_eq_getElem?_getD]
   rcases mem_append.1 hr with hr|hr
   . exact h r hr cF
   . rw[mem_singleton.1 hr] at e;exact absurd hx e
theorem FlatP.step {g:Gr}{S:List (List aA)}{k:Int}{m:Nat}{W:Nat->List Int}{rows:List Ins}(h:FlatP g S k W m rows)(hm:m<g.ins.l.length){pl':List Int}{x:Ins}(hx:x=dY g.ins.l[m] (W m) pl')
 (h1:∀r:Nat,(r:Int)<g.aj->hP S (m+1) r->eO pl' k (r:Int))(h2:0≤aH g.ins.l[m]->eO pl' k (aH g.ins.l[m]))(h3:cQ g.ins.l[m]->0≤aH g.ins.l[m]->∀r:Nat,(r:Int)<g.aj->hP S (m+1) r->(r:Int)≠aH g.ins.l[m]->pl'.getD r 0≠pl'.getD (aH g.ins.l[m]).toNat 0)
 (h4:cQ g.ins.l[m]->∀r:Nat,(r:Int)<g.aj->hP S (m+1) r->(r:Int)≠aH g.ins.l[m]->pl'.getD r 0=(W m).getD r 0):∃W',W' (m+1)=pl'∧FlatP g S k W' (m+1) (rows++[x]):=by
 have lo:∀p,p≤m->(if p≤m then W p else pl')=W p:=fun p hp=>if_pos hp
 have hi:(if m+1≤m then W (m+1) else pl')=pl':=if_neg aa
 refine⟨fun p=>if p≤m then W p else pl',hi,by rw[length_append,h.len];rfl,hm,fun p hp hp'=>?_,fun p hp=>?_,fun p hp hpm=>?_,fun p hp hpm=>?_,fun p hp hpm=>?_⟩
 . by_cases e : p < m
   . have hr : p < rows.length := by rw [h.len]; exact e
     rw[getElem_append_left hr,h.row p hp hr]
     (try dsimp only)
     rw[lo p aa,lo (p+1) aa]
   . have e : p = m := by rw [length_append, h.len] at hp'; simp at hp'; omega
     subst e;rw[getElem_append_right (by rw[h.len];exact Nat.le_refl _)]
     (try dsimp only)
     rw[lo p (Nat.le_refl _),hi,<-hx];simp
 . by_cases e : p ≤ m
   . (try dsimp only);rw[lo p e];exact h.jK p e
   . have e : p = m + 1 := aa
     subst e
     (try dsimp only);rw[hi];exact h1
 . (try dsimp only)
   by_cases e:p<m
   . rw[lo (p+1) aa];exact h.dst p hp e
   . obtain rfl : p = m := aa
     rw[hi];exact h2
 . (try dsimp only)
   by_cases e:p<m
   . rw[lo (p+1) aa];exact h.sep p hp e
   . obtain rfl : p = m := aa
     rw[hi];exact h3
 . (try dsimp only)
   by_cases e:p<m
   . rw[lo (p+1) aa,lo p aa];exact h.HR p hp e
   . obtain rfl : p = m := aa
     rw[hi,lo p (Nat.le_refl _)];exact h4
theorem GV {mk:List Bool}{i:Int}(h:kA mk i)(hi:0≤i):mk.getD i.toNat false=false:=by
 rcases h with⟨rfl,_⟩|⟨h1,h2,h3⟩
 . omega
 . have hlt : i.toNat < mk.length := aa
   simp only[getD,getElem?_eq_getElem hlt,Option.getD_some] at h3 ⊢;exact h3
theorem Jo {g:Gr}(hv:gz g){pl:List Int}(h:pl.length=g.aj.toNat){i:Ins}(hi:i∈g.ins.l):vB i pl:=by
 have h1:=hv.ins i hi;have hr:=hv.aj;refine⟨?_,?_,fun r hr2=>?_⟩
 . rcases h1.a with e | e
   . exact .inl aa
   . exact .inr aa
 . rcases h1.b with e | e
   . exact .inl aa
   . exact .inr aa
 . have:=h1.l r hr2;exact .inr aa
theorem xt {g:Gr}{S:List (List aA)}(dw:g_ g)(hL:fy g S){m r:Nat}(hm:m<g.ins.l.length)(hb:hP S (m+1) r)(cF:(r:Int)≠aH g.ins.l[m]):hP S m r:=by
 have hlast:=hL.last dw.1 r;have hf:cQ g.ins.l[m]:=by
  rcases(dw.2 m hm hm).2 with h|h
  . exact h
  . have e : m + 1 = g.ins.l.length := aa
    rw[<-e,show bB (aK S (m+1)) r=true from hb] at hlast;cases hlast
 exact hL.fix m r aa (.inl ⟨hm,.inl ⟨hf,hb,cF⟩⟩)
theorem Ya {i:Ins}(h:0≤aH i):aH i=i.d:=by
 unfold aH at h ⊢;split
 . rfl
 . rename_i h2;rw[if_neg h2] at h;omega
theorem gZ.put {g:Gr}{S:List (List aA)}{k:Int}{m:Nat}{mk mk1:List Bool}{pl:List Int}{rows:List Ins}{i:Int}{L:List Int}{j:Nat}(hg:cM g)(dw:g_ g)(hS:fy g S)(h:gZ g S k m mk pl rows)(hm:m<g.ins.l.length)(hd:0≤aH g.ins.l[m])(hi:kA mk1 i)(hi2:0≤i∧i<k)(hml:mk1.length=k.toNat)
 (hL:bn (aK S (m+1)) g.aj.toNat=L)(hM:mO L pl (aH g.ins.l[m]) j mk1)(hj:L.length≤j){x:Ins}(hx:x={ gG g.ins.l[m] pl with d:=i }){rows':List Ins}(h5:rows'=rows++[x]):gZ g S k (m+1) (mk1.set i.toNat true) (pl.set (aH g.ins.l[m]).toNat i) rows':=by
 subst h5;have hdr:=hg.ga _ (getElem_mem hm);have hr3:(aH g.ins.l[m]).toNat<pl.length:=by rw[h.pn];omega
 obtain⟨W,hW1,hW⟩:=h.fl;have hput:∀r:Nat,(r:Int)≠aH g.ins.l[m]->(pl.set (aH g.ins.l[m]).toNat i).getD r 0=pl.getD r 0:=fun r cF=>by rw[uw hr3,if_neg aa]
 have hput2:(pl.set (aH g.ins.l[m]).toNat i).getD (aH g.ins.l[m]).toNat 0=i:=by rw[uw hr3,if_pos rfl]
 refine⟨by rw[length_set];exact hml,by rw[length_set];exact h.pn,hW.step hm ?_ (fun r hr hb=>?_) (fun _=>?_) (fun _ _ r hr hb cF=>?_) (fun _ r hr hb cF=>?_)⟩
 . rw [hx, hW1]
   unfold dY;rw[if_pos hd,<-Ya hd,hput2]
 . exact eO.put (s:=(r:Int)) hr3 hi2 fun cF=>h.jK r hr (xt dw hS hm hb aa)
 . unfold eO;rw[hput2];exact hi2
 . rw [hput r cF, hput2]
   intro e;have h1:=hM (r:Int) (by rw[take_of_length_le hj,<-hL];exact ny.2 ⟨r,rfl,aa,hb⟩) cF
   rw[Int.toNat_natCast,e,GV hi hi2.1] at h1;cases h1
 . rw[hput r cF,hW1]
theorem gZ.keep {g:Gr}{S:List (List aA)}{k:Int}{m:Nat}{mk:List Bool}{pl:List Int}{rows:List Ins}(dw:g_ g)(hS:fy g S)(h:gZ g S k m mk pl rows)(hm:m<g.ins.l.length)(hd:¬0≤aH g.ins.l[m]){x:Ins}(hx:x=gG g.ins.l[m] pl){rows':List Ins}(h5:rows'=rows++[x]):gZ g S k (m+1) mk pl rows':=by
 subst h5;obtain⟨W,hW1,hW⟩:=h.fl;refine⟨h.ml,h.pn,hW.step hm ?_ (fun r hr hb=>h.jK r hr (xt dw hS hm hb aa)) (fun h2=>absurd h2 hd) (fun _ h2=>absurd h2 hd) (fun _ r _ _ _=>by rw[hW1])⟩
 rw[hx,hW1];unfold dY;rw[if_neg hd];rfl
theorem FlatP.Lq {g:Gr}{S:List (List aA)}{k:Int}{W:Nat->List Int}{m:Nat}{B:List Ins}(h:FlatP g S k W m B)(dw:g_ g)(hm:m=g.ins.l.length):j2 g S k W B:=by
 subst hm;refine⟨h,fun p t ht=>?_⟩
 unfold aX at ht;split at ht
 . rename_i hp
   rw[(dw.2 p hp hp).1,dw.1] at ht;split at ht<;>cases ht
 . rw[dw.1] at ht;cases ht
theorem FlatP.key {g:Gr}{S:List (List aA)}{k:Int}{W:Nat->List Int}{m:Nat}{B:List Ins}(h:FlatP g S k W m B):B.map mg=(g.ins.l.take m).map mg:=by
 have hle:=h.le;have hlen:=h.len;refine ext_getElem (by rw[length_map,length_map,length_take,hlen];omega) fun n h1 h2=>?_
 have hn:n<B.length:=by simpa using h1
 rw[getElem_map,getElem_map,getElem_take,h.row n aa hn];rfl
theorem HA {m:Nat}{rows:List (List AV)}(h:m+1<rows.length)(hb:m≤100000):bp (wr .i64 ((m:Int)+1)) rows.length=true:=by
 rw[aF aa aa,hZ];omega
theorem Jc {g:Gr}{S:List (List aA)}(hs:ShS g S){m:Nat}(h:m+1≤g.ins.l.length)(hb:m≤100000):(S.map fun ws=>[fW ws])[(wr .i64 ((m:Int)+1)).toNat]? = some [fW (aK S (m+1))]:=
 qy hs h (by rw[aF aa aa];omega) rfl
theorem FH {mk:List Bool}{n:Nat}(h:mk.length=n):(mk.map bc).take 0++replicate n [AV.bool false]++(mk.map bc).drop (0+n)=(replicate n false).map bc:=by
 rw[drop_eq_nil_of_le (by rw[length_map];omega)];simp
theorem yk {n:Nat}:replicate n [AV.bool false]=(replicate n false).map bc:=ag
theorem ym {n:Nat}:replicate n [AV.int .i64 0]=(replicate n (0:Int)).map ic:=ag
def Er (g:Gr)(k:Int)(v:AV)(b:Bool):Prop:=
 (b=false∧v = .agg [i64 0,.ah])∨(b=true∧∃(bd:Bd) (S:List (List aA)) (W:Nat->List Int),v=bd.av∧bd.aj=k∧fy g S∧j2 g S k W bd.ins.l)
theorem UJ (g:Gr)(hv:gz g)(k:Int)(hk:0≤k∧k≤4000):af 42 [g.av,i64 k] (fun ae=>∃x b,ae = .ret (.ao [x,.bool b])∧∃v,mP x v∧Er g k v b):=by
 refine zw func42 ?_;have hg:=hv.ok;have hil:=g.ins.h;have hfew:=hg.eU;have hregs:=hg.aj;have hge:=mj hg;have hnw:=qt hg;refine zg ?_
 repeat' ((first|(refine zp ?_ ?_<;>first|exact⟨⟩|intro h)|(refine DC.pure rfl (Ie g hg) ?_;rintro _ ⟨S,rfl,hS⟩)|(refine DC.pure rfl (Zi g) ?_;rintro _ (⟨rfl,dw⟩|⟨rfl,dw⟩))|(refine DC.pure rfl (WT g hg S hS.toShS) ?_;rintro _ ⟨n,rfl,hn⟩))<;>refine zg ?_)
 all_goals first
  | exact⟨_,_,rfl,_,.r,.inl ⟨rfl,rfl⟩⟩
  | skip
 have hsl:=hS.len;refine zk ?_
 repeat' ((first|refine Rq.mk (sr (l':=g.aj) rfl rfl aa ab rfl) ?_|refine Rq.mk (sr (l':=k) rfl rfl aa ab rfl) ?_|refine ay.mk _ (qy hS.toShS (k:=0) (zero_le _) rfl rfl) ?_|(refine zh rfl (mh (aK S 0) (by rw[eJ hS.toShS (zero_le _)];exact hnw) g.aj ⟨hregs.1,(by rw[eJ hS.toShS (zero_le _)];exact hge)⟩) ?_;rintro _ rfl))<;>refine zk ?_)
 have hL1:((bn (aK S 0) g.aj.toNat).length:Int)≤k:=by
  rcases eq_zero_or_pos g.ins.l.length with h0|h0
  . have:bn (aK S 0) g.aj.toNat=[]:=eq_nil_iff_forall_not_mem.2 fun x hx=>by
     obtain⟨r,_,_,hb⟩:=ny.1 hx;have:=hS.last dw.1 r;rw[h0,hb] at this;cases this
    rw[this];simp;omega
  . have h1 := (hn.up 0 h0).1
    have h2:(su g S 0)=bn (aK S 0) g.aj.toNat:=rfl;rw[h2] at h1;omega
 have hLr:∀(j:Nat) (h:j<(bn (aK S 0) g.aj.toNat).length),0≤(bn (aK S 0) g.aj.toNat)[j]∧(bn (aK S 0) g.aj.toNat)[j]<g.aj:=fun j h=>ns (getElem_mem h)
 generalize hLd:bn (aK S 0) g.aj.toNat=L at hL1 hLr
 refine DW.aO aC aD [2,4,5,6,7,8,9,10,45,46] [26,22] 200 (fun x:{x:Nat×List Bool×List Int // pB g k x.1 x.2.1 x.2.2∧vy x.2.2 k L x.1∧x.1≤L.length}=>[(47,i64 x.1.1)]) (fun x=>[(26,.arr 1 (x.1.2.1.map bc)),(22,.arr 1 (x.1.2.2.map ic))]) [] (fun x=>L.length+1 - x.1.1) (⟨(0,replicate k.toNat false,replicate g.aj.toNat 0),⟨ag,ag,by rw[AM];exact Nat.le_refl _⟩,(fun r hr=>by cases hr),zero_le _⟩) ?_
 conv=>whnf
 refine⟨?_,fun x=>?_⟩
 . conv => whnf
   (exact zn)
 rcases x with⟨⟨m,mk,pl⟩,hx,hk1,hmb⟩
 dsimp only at hx hk1 hmb;have hmkl:=hx.ml;have hpll:=hx.pl;refine zk ?_
 repeat' ((first|refine cb (fh (l:=pl) hr3) ?_|refine cb (fh (l:=mk) aa) ?_|refine cb (xM hr3) ?_|refine ay.mk _ (bI (l:=L) (i:=m) aa) ?_|(refine zp ?_ ?_<;>first|exact⟨⟩|intro h)|refine zd func86 ?_|(refine DV.p9 (rs:=[26]) (aJ (gu (f:=bc) (l:=mk) (n:=19) (fun _=>rfl) rfl rfl hmkl.symm) rfl) (xf ⟨mk,aa⟩) (Dk (qN (n:=19) (f:=bc) (l:=mk) rfl (fun _=>rfl)) rfl) ?_;rintro _ ⟨i,rfl,hi⟩;have hi2:=Bq hx aa hi;have hr2:=hLr m aa;have hr3:((L[m]'aa)).toNat<pl.length:=aa;refine⟨_,rfl,rfl,?_⟩))<;>refine zk ?_)
 . (refine⟨⟨(m+1,mk.set i.toNat true,pl.set (L[m]'aa).toNat i),hx.put,hk1.step aa hr3 hi2,bG⟩,nW,rfl,bG⟩)
 have hin0 : ∀ r : Nat, (r : Int) < g.aj->hP S 0 r->eO pl k (r : Int) := fun r hr hb => hk1 _ (by
  rw[take_of_length_le aa,<-hLd];exact ny.2 ⟨r,rfl,aa,hb⟩)
 refine DW.aO aC aD [2,4,5,6,7,8,9,10,56,57] [26,22,18] 4000 (fun x:{x:Nat×List Bool×List Int×List Ins // gZ g S k x.1 x.2.1 x.2.2.1 x.2.2.2}=>[(58,i64 x.1.1)]) (fun x=>[(26,.arr 1 (x.1.2.1.map bc)),(22,.arr 1 (x.1.2.2.1.map ic)),(18,.arr 2 [[i64 k,fc 2000 29 (x.1.2.2.2.map Ins.cells)]])]++e_ 2000 29 (x.1.2.2.2.map Ins.cells)) [(2000,.cell 18 1)] (fun x=>g.ins.l.length+1 - x.1.1) (⟨(0,mk,pl,[]),gZ.start hmkl hpll hin0⟩) ?_
 conv=>whnf
 refine⟨?_,fun x=>?_⟩
 . conv => whnf
   (exact zn)
 rcases x with⟨⟨m,mk,pl,_|⟨z,acc⟩⟩,hx⟩
 all_goals
  have hmkl:=hx.ml;have hpll:=hx.pn;have hmb:=hx.le;have i_len:=hx.len;dsimp only at hmkl hpll hmb i_len;simp only[length_nil,length_cons] at i_len
 . have hx' : gZ g S k m mk pl ([]) := hx
   have hsl2:∀(h:m<g.ins.l.length),m+1<(S.map fun ws=>[fW ws]).length:=fun h=>by rw[length_map];omega
   refine zk ?_
   repeat' ((first|refine ay.mk _ (bI (l:=g.ins.l) (i:=m) aa) ?_|refine zf ?_|refine Rq.mk (HA (m:=m) (hsl2 aa) aa) ?_|refine ay.mk _ (Jc hS.toShS (m:=m) aa aa) ?_|(refine zp ?_ ?_<;>first|exact⟨⟩|intro h)|(refine DC.pure rfl (o0 (g.ins.l[m]'aa)) ?_;rintro _ rfl)|(refine DC.GU (k:=22) (Jq (g.ins.l[m]'aa) pl hpll aa (hg.h_ _ (getElem_mem _)) (Jo hv hpll (getElem_mem _))) rfl rfl rfl xV ?_;rintro _ H' _ ⟨rfl,h0⟩;refine⟨HG _,_,h0,xV,?_⟩)|(refine zh rfl (mh (aK S (m+1)) (by rw[eJ hS.toShS aa];exact hnw) g.aj ⟨hregs.1,(by rw[eJ hS.toShS aa];exact hge)⟩) ?_;rintro _ rfl))<;>refine zk ?_)
   . have hlt : m < g.ins.l.length := aa
     have hd:0≤aH (g.ins.l[m]'hlt):=h;have hdr:=hg.ga _ (getElem_mem hlt);have hn2:=(hn.up m hlt).2;have hcnt:=IG hg hS hlt hd;have hLr2:∀(j:Nat) (h:j<(bn (aK S (m+1)) g.aj.toNat).length),0≤(bn (aK S (m+1)) g.aj.toNat)[j]∧(bn (aK S (m+1)) g.aj.toNat)[j]<g.aj:=fun j h=>ns (getElem_mem h)
     have hik2:∀(j:Nat) (h:j<(bn (aK S (m+1)) g.aj.toNat).length) (h2:(bn (aK S (m+1)) g.aj.toNat)[j].toNat<pl.length),¬(bn (aK S (m+1)) g.aj.toNat)[j]=aH (g.ins.l[m]'hlt)->0≤pl[(bn (aK S (m+1)) g.aj.toNat)[j].toNat]∧pl[(bn (aK S (m+1)) g.aj.toNat)[j].toNat]<k:=fun j h h2 cF=>by
      obtain⟨r,e,h3,h4⟩:=ny.1 (getElem_mem h);have h5:=hx'.jK r aa (xt dw hS hlt h4 (by rw[<-e];exact cF))
      unfold eO at h5;rw[<-e,qc h2] at h5;exact h5
     have hLl:(bn (aK S (m+1)) g.aj.toNat).length≤1000:=by have:=@sf (aK S (m+1)) g.aj.toNat;omega
     generalize hLd2:(bn (aK S (m+1)) g.aj.toNat)=L2 at hLr2 hik2 hcnt hLl
     refine DW.aO aC aD [2,4,5,6,7,8,9,10,13,14,15,16,56,57,58,59,60,61,62,63,64,65,66,67,68,69,70,71,72,73,74,75,76,77,78,79] [26] 200 (fun y:{y:Nat×List Bool // y.2.length=k.toNat∧lA y.2≤lz L2 (aH (g.ins.l[m]'hlt)) y.1∧y.1≤L2.length∧mO L2 pl (aH (g.ins.l[m]'hlt)) y.1 y.2}=>[(80,i64 y.1.1)]) (fun y=>[(26,.arr 1 (y.1.2.map bc))]) [] (fun y=>L2.length+1 - y.1.1) (⟨(0,replicate k.toNat false),ag,by rw[AM];exact zero_le _,zero_le _,(fun r hr=>by cases hr)⟩) ?_
     conv=>whnf
     refine⟨?_,fun y=>?_⟩
     . conv => whnf
       (exact zn)
     rcases y with⟨⟨j,mk1⟩,hy1,hy2,hy3,hy4⟩
     dsimp only at hy1 hy2 hy3 hy4;refine zk ?_
     repeat' ((first|refine ay.mk _ (bI (l:=L2) (i:=j) aa) ?_|refine Rq.mk (r9 (hLr2 j aa) aa) ?_|(refine cb (fh (l:=pl) mI) ?_)|(refine Rq.mk (r9 (hik2 j aa mI h) aa) ?_)|(refine cb (fh (l:=mk1) (by have:=hik2 j aa mI h;omega)) ?_)|(refine zp ?_ ?_<;>first|exact⟨⟩|intro h))<;>refine zk ?_)
     . (refine⟨⟨(j+1,mk1),hy1,by rw[wx aa,if_neg (by rw[h];simp)];exact hy2,bG,hy4.skip aa h⟩,nW,rfl,bG⟩)
     . have cF := h
       have hik:=hik2 j aa mI cF
       (refine⟨⟨(j+1,mk1.set (pl[(L2[j]'aa).toNat]'mI).toNat true),by rw[length_set];exact hy1,by rw[wx aa,if_pos cF];exact Nat.le_trans wy (Nat.add_le_add_right hy2 1),bG,hy4.put aa (by rw[qc]) aa⟩,nW,rfl,bG⟩)
     . have hcl : ((lz L2 (aH (g.ins.l[m]'hlt)) j : Nat) : Int) < k := by rw [FI aa]; omega
       have hx:pB g k (lz L2 (aH (g.ins.l[m]'hlt)) j) mk1 pl:=⟨hy1,hpll,hy2⟩;have hmkl:=hy1;refine zk ?_
       repeat' ((first|refine cb (fh (l:=pl) hr3) ?_|refine cb (fh (l:=mk1) aa) ?_|refine cb (xM hr3) ?_|refine zf ?_|refine zd func86 ?_|(refine DV.p9 (rs:=[26]) (aJ (gu (f:=bc) (l:=mk1) (n:=19) (fun _=>rfl) rfl rfl hmkl.symm) rfl) (xf ⟨mk1,aa⟩) (Dk (qN (n:=19) (f:=bc) (l:=mk1) rfl (fun _=>rfl)) rfl) ?_;rintro _ ⟨i,rfl,hi⟩;have hi2:=Bq hx hcl hi;have hr2:=(And.intro hd hdr);have hr3:((aH (g.ins.l[m]'hlt))).toNat<pl.length:=aa;refine⟨_,rfl,rfl,?_⟩))<;>refine zk ?_)
       (refine⟨⟨(m+1,mk1.set i.toNat true,pl.set (aH (g.ins.l[m]'hlt)).toNat i,[{ gG (g.ins.l[m]'hlt) pl with d:=i }]),hx'.put hg dw hS hlt hd hi hi2 hy1 hLd2 hy4 aa (x:={ gG (g.ins.l[m]'hlt) pl with d:=i }) rfl rfl⟩,nW,rfl,bG⟩)
   . (refine⟨⟨(m+1,mk,pl,[gG (g.ins.l[m]'aa) pl]),hx'.keep dw hS aa aa (x:=gG (g.ins.l[m]'aa) pl) rfl rfl⟩,nW,rfl,bG⟩)
   . obtain ⟨W, _, hW⟩ := hx'.fl
     exact⟨_,_,rfl,(Bd.mk k ⟨[],ab⟩).av,.inr ⟨_,_,rfl,rfl,.r,.n,trivial⟩,.inr ⟨rfl,_,S,W,rfl,rfl,hS,hW.Lq dw aa⟩⟩
 . have hx' : gZ g S k m mk pl (z :: acc) := hx
   have hsl2:∀(h:m<g.ins.l.length),m+1<(S.map fun ws=>[fW ws]).length:=fun h=>by rw[length_map];omega
   refine zk ?_
   repeat' ((first|refine ay.mk _ (bI (l:=g.ins.l) (i:=m) aa) ?_|refine zf ?_|(refine Rq.mk (di 304 2000 ag rfl rfl mF ab) ?_)|refine Rq.mk (HA (m:=m) (hsl2 aa) aa) ?_|refine ay.mk _ (Jc hS.toShS (m:=m) aa aa) ?_|(refine zp ?_ ?_<;>first|exact⟨⟩|intro h)|(refine DC.pure rfl (o0 (g.ins.l[m]'aa)) ?_;rintro _ rfl)|(refine DC.GU (k:=22) (Jq (g.ins.l[m]'aa) pl hpll aa (hg.h_ _ (getElem_mem _)) (Jo hv hpll (getElem_mem _))) rfl rfl rfl xV ?_;rintro _ H' _ ⟨rfl,h0⟩;refine⟨HG _,_,h0,xV,?_⟩)|(refine zh rfl (mh (aK S (m+1)) (by rw[eJ hS.toShS aa];exact hnw) g.aj ⟨hregs.1,(by rw[eJ hS.toShS aa];exact hge)⟩) ?_;rintro _ rfl))<;>refine zk ?_)
   . have hlt : m < g.ins.l.length := aa
     have hd:0≤aH (g.ins.l[m]'hlt):=h;have hdr:=hg.ga _ (getElem_mem hlt);have hn2:=(hn.up m hlt).2;have hcnt:=IG hg hS hlt hd;have hLr2:∀(j:Nat) (h:j<(bn (aK S (m+1)) g.aj.toNat).length),0≤(bn (aK S (m+1)) g.aj.toNat)[j]∧(bn (aK S (m+1)) g.aj.toNat)[j]<g.aj:=fun j h=>ns (getElem_mem h)
     have hik2:∀(j:Nat) (h:j<(bn (aK S (m+1)) g.aj.toNat).length) (h2:(bn (aK S (m+1)) g.aj.toNat)[j].toNat<pl.length),¬(bn (aK S (m+1)) g.aj.toNat)[j]=aH (g.ins.l[m]'hlt)->0≤pl[(bn (aK S (m+1)) g.aj.toNat)[j].toNat]∧pl[(bn (aK S (m+1)) g.aj.toNat)[j].toNat]<k:=fun j h h2 cF=>by
      obtain⟨r,e,h3,h4⟩:=ny.1 (getElem_mem h);have h5:=hx'.jK r aa (xt dw hS hlt h4 (by rw[<-e];exact cF))
      unfold eO at h5;rw[<-e,qc h2] at h5;exact h5
     have hLl:(bn (aK S (m+1)) g.aj.toNat).length≤1000:=by have:=@sf (aK S (m+1)) g.aj.toNat;omega
     generalize hLd2:(bn (aK S (m+1)) g.aj.toNat)=L2 at hLr2 hik2 hcnt hLl
     refine DW.aO aC aD [2,4,5,6,7,8,9,10,13,14,15,16,56,57,58,59,60,61,62,63,64,65,66,67,68,69,70,71,72,73,74,75,76,77,78,79] [26] 200 (fun y:{y:Nat×List Bool // y.2.length=k.toNat∧lA y.2≤lz L2 (aH (g.ins.l[m]'hlt)) y.1∧y.1≤L2.length∧mO L2 pl (aH (g.ins.l[m]'hlt)) y.1 y.2}=>[(80,i64 y.1.1)]) (fun y=>[(26,.arr 1 (y.1.2.map bc))]) [] (fun y=>L2.length+1 - y.1.1) (⟨(0,replicate k.toNat false),ag,by rw[AM];exact zero_le _,zero_le _,(fun r hr=>by cases hr)⟩) ?_
     conv=>whnf
     refine⟨?_,fun y=>?_⟩
     . conv => whnf
       (exact zn)
     rcases y with⟨⟨j,mk1⟩,hy1,hy2,hy3,hy4⟩
     dsimp only at hy1 hy2 hy3 hy4;refine zk ?_
     repeat' ((first|refine ay.mk _ (bI (l:=L2) (i:=j) aa) ?_|refine Rq.mk (r9 (hLr2 j aa) aa) ?_|(refine cb (fh (l:=pl) mI) ?_)|(refine Rq.mk (r9 (hik2 j aa mI h) aa) ?_)|(refine cb (fh (l:=mk1) (by have:=hik2 j aa mI h;omega)) ?_)|(refine zp ?_ ?_<;>first|exact⟨⟩|intro h))<;>refine zk ?_)
     . (refine⟨⟨(j+1,mk1),hy1,by rw[wx aa,if_neg (by rw[h];simp)];exact hy2,bG,hy4.skip aa h⟩,nW,rfl,bG⟩)
     . have cF := h
       have hik:=hik2 j aa mI cF
       (refine⟨⟨(j+1,mk1.set (pl[(L2[j]'aa).toNat]'mI).toNat true),by rw[length_set];exact hy1,by rw[wx aa,if_pos cF];exact Nat.le_trans wy (Nat.add_le_add_right hy2 1),bG,hy4.put aa (by rw[qc]) aa⟩,nW,rfl,bG⟩)
     . have hcl : ((lz L2 (aH (g.ins.l[m]'hlt)) j : Nat) : Int) < k := by rw [FI aa]; omega
       have hx:pB g k (lz L2 (aH (g.ins.l[m]'hlt)) j) mk1 pl:=⟨hy1,hpll,hy2⟩;have hmkl:=hy1;refine zk ?_
       repeat' ((first|refine cb (fh (l:=pl) hr3) ?_|refine cb (fh (l:=mk1) aa) ?_|refine cb (xM hr3) ?_|refine zf ?_|(refine Rq.mk (di 304 2000 ag rfl rfl mF ab) ?_)|refine zd func86 ?_|(refine DV.p9 (rs:=[26]) (aJ (gu (f:=bc) (l:=mk1) (n:=19) (fun _=>rfl) rfl rfl hmkl.symm) rfl) (xf ⟨mk1,aa⟩) (Dk (qN (n:=19) (f:=bc) (l:=mk1) rfl (fun _=>rfl)) rfl) ?_;rintro _ ⟨i,rfl,hi⟩;have hi2:=Bq hx hcl hi;have hr2:=(And.intro hd hdr);have hr3:((aH (g.ins.l[m]'hlt))).toNat<pl.length:=aa;refine⟨_,rfl,rfl,?_⟩))<;>refine zk ?_)
       (refine⟨⟨(m+1,mk1.set i.toNat true,pl.set (aH (g.ins.l[m]'hlt)).toNat i,z::(acc++[{ gG (g.ins.l[m]'hlt) pl with d:=i }])),hx'.put hg dw hS hlt hd hi hi2 hy1 hLd2 hy4 aa (x:={ gG (g.ins.l[m]'hlt) pl with d:=i }) rfl rfl⟩,nW,rfl,bG⟩)
   . (refine⟨⟨(m+1,mk,pl,z::(acc++[gG (g.ins.l[m]'aa) pl])),hx'.keep dw hS aa aa (x:=gG (g.ins.l[m]'aa) pl) rfl rfl⟩,nW,rfl,bG⟩)
   . generalize hg2 : snap _ 20 _ = rr
     obtain rfl:=hg2.symm.trans (qT (n:=19) (nR (n:=18) (aJ rfl (aJ (gV (f:=Ins.cells) (n:=17) (fun _=>rfl) rfl) rfl))) rfl)
     conv=>whnf
     obtain⟨W,_,hW⟩:=hx'.fl;exact⟨_,_,rfl,(Bd.mk k ⟨z::acc,by rw[length_cons,i_len];omega⟩).av,.r,.inr ⟨rfl,_,S,W,rfl,rfl,hS,hW.Lq dw aa⟩⟩
theorem UI (g:Gr)(hv:gz g)(k:Int)(hk:0≤k∧k≤4000):af 42 [g.av,i64 k] (fun ae=>∃v b,ae = .ret (.ao [v,.bool b])∧Er g k v b):=by
 refine(UJ g hv k hk).oI ?_
 rintro _ ⟨x,b,rfl,v,h1,h2⟩
 exact⟨_,.ao [v,.bool b],rfl,.inr ⟨_,_,rfl,rfl,h1,.r,trivial⟩,v,b,rfl,h2⟩
end Go.Ago
namespace Go.Ago
open Go.Proofs List Nat Tryz
theorem Wu {l:List Int}{n:Nat}(h:l.Pairwise (·<·))(b:∀x∈l,0≤x∧x≤(n:Int)):l.length≤n+1:=
 Cs _ l (h.imp fun h=>aa) fun x a=>by grind
def tH (c:Cd)(p:Int)(m:Nat):Prop:=∀b∈c.b.l,∀i∈b.ins.l,i.op=16->i.p=p->0≤i.n∧i.n≤(m:Int)
theorem Gb {c:Cd}{p e:Int}{l:List Int}{m:Nat}(h:eA c p l e)(f:tH c p m):∀x∈l,0≤x∧x≤(m:Int):=by
 rcases h with⟨_,_,rfl⟩|⟨_,_,_,rfl⟩|⟨_,_,_,_,a,_⟩
 . simp
 . simp
 intro x g;obtain⟨b,j,i,k,n,d,rfl⟩:=oG.1 ((a x).1 g);exact f b j i k n d
theorem QT {c:Cd}{p e:Int}{l:List Int}{m:Nat}(h:eA c p l e)(d:tH c p m):l.length≤m+1:=by
 have b:=Gb h d;rcases h with⟨_,_,rfl⟩|⟨_,_,_,rfl⟩|⟨_,_,_,_,_,a⟩
 . simp
 . simp
 exact Wu a b
theorem Jh:∀{l r:List Int},l.Pairwise (·<·)->r.Pairwise (·<·)->(∀x,x∈l↔x∈r)->l=r
 | [],[],_,_,_=>rfl
 | [],y::r,_,_,h=>absurd ((h y).2 ag) ag
 | x::l,[],_,_,h=>absurd ((h x).1 ag) ag
 | x :: l, y :: r, c, d, h => by
   rw[pairwise_cons] at c d;have b:x=y:=by
    rcases mem_cons.1 ((h x).1 ag) with b|b
    . exact b
    . rcases mem_cons.1 ((h y).2 ag) with f|f<;>grind
   subst b
   congr 1
   refine Jh c.2 d.2 fun z=>⟨fun e=>?_,fun e=>?_⟩<;>grind
theorem Hf {c:Cd}{p e:Int}{g:Gr}(h:0≤g.aj∧g.aj≤60)(j:g.ins.l.length≤900)(d:∀i∈g.ins.l,InsV g.aj g.ins.l.length i)(f:∀i∈g.ins.l,i.l.l.length≤40)(a:eA c p g.entries.l e)(b:tH c p g.ins.l.length):gz g:=
 ⟨aa,⟨aa,by have:=QT a b;omega⟩,d,f,Gb a b⟩
end Go.Ago
