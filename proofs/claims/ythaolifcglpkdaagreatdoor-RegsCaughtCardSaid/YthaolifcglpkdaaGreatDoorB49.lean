/-
  Part B49: lemmas, each with its own conditions.
-/
import Derived.OpenShut
import Derived.DataElems
import Derived.ChangeOld
import Derived.ChangeArms
import Derived.ProofKit
import Derived.LaidMore
import Derived.ReadAgain
import Derived.Test.YthaolifcglpkdaaGreatDoorB08
set_option maxRecDepth 100000
set_option maxHeartbeats 0
set_option linter.all false
section
namespace Go.Ago
open List Nat
def lk (w:World):Ctx:=⟨fun _=>none,fun b=>b<w.heap.size⟩
def lE (P:Program):List Field->Nat->Nat->Bool
 | [],o,n=>o == n
 | f::fs,o,n=>f.offset == o && lE P fs (o+P.cellsOf f.type) n
def yU (q:TypeId->List AV->Prop):List TypeId->List AV->Prop
 | [],vs=>vs=[]
 | t::ts,vs=>∃a r,vs=a++r∧q t a∧yU q ts r
def gV (P:Program):Nat->TypeId->List AV->Prop
 | 0,_,_=>False
 | n + 1, t, vs => match P.underlying t with
   | some .bool=>∃b,vs=[.bool b]
   | some (.int k)=>∃m,vs=[.int k m]
   | some .string=>∃l:List UInt8,vs=[.str l]∧l.length≤reachBytes
   | some (.slice e)=>0<P.bytesOf e->0<P.cellsOf e->∃es,vs=[.ak (P.cellsOf e) es]∧es.length≤reachBytes∧∀x∈es,gV P n e x
   | some (.struct fs)=>lE P fs.toList 0 (P.cellsOf t)=true->yU (gV P n) (fs.toList.map (·.type)) vs
   | _=>True
section
variable {H:Type} {enc:TypeId×Value->H} {P:Program} {w:World} {spare:Nat->Bool} {held:Bool} {c:Ctx}
theorem tX (cs:List Value):aP c w (cs.map fun _=>AV.any) cs:=
 ⟨ag,fun i x v e _=>by
  rw[zbC] at e;cases h:cs[i]? with
  | none=>rw[h] at e;cases e
  | some y=>rw[h] at e;cases e;exact .any v⟩
theorem oK {x:AV}{v:Value}(h:Rel c w x v):aP c w [x] [v] := .cons h .nil
theorem LO (s:ByteArray):Rel c w (.str s.data.toList) (.string s):=by
 have h:=Rel.str (c:=c) (w:=w) s.data.toList;obtain⟨⟨l⟩⟩:=s;exact h
theorem G6 {q:TypeId->List AV->Prop}{cs:List Value}:∀(fs:List Field) (o:Nat),lE P fs o cs.length=true->
 (∀f∈fs,∃a,aP c w a ((cs.drop f.offset).take (P.cellsOf f.type))∧q f.type a)->∃a,aP c w a (cs.drop o)∧yU q (fs.map (·.type)) a
 | [], o, ho, _ => by
   have:o=cs.length:=by simpa[lE] using ho
   exact⟨[],by rw[this,drop_length];exact .nil,rfl⟩
 | f :: fs, o, ho, h => by
   simp only[lE,zbe,zb1] at ho;obtain⟨ho1,ho2⟩:=ho;obtain⟨a,ha,hq⟩:=h f ag;obtain⟨r,hr,hs⟩:=G6 fs _ ho2 fun g hg=>h g (by simp[hg])
   refine⟨a++r,?_,a,r,rfl,hq,hs⟩;rw[ho1] at ha;have:=ha.append hr;rw[<-drop_drop,zb7] at this;exact this
theorem pick {α:Type}{p:Nat->α->Prop}:∀(n:Nat),(∀i,i<n->∃x,p i x)->∃l:List α,l.length=n∧∀i x,l[i]? = some x->p i x
 | 0,_=>⟨[],rfl,fun i x e=>by simp at e⟩
 | n + 1, h => by
   obtain⟨l,hl,hp⟩:=pick (p:=p) n fun i hi=>h i aa
   obtain⟨y,hy⟩:=h n aa;refine⟨l++[y],by simp[hl],fun i x e=>?_⟩
   rcases zbI i l.length with h1|h1
   . exact hp i x (by rwa [zbM h1] at e)
   . rw [zbv h1] at e
     have h0:i - l.length=0:=by
      rcases zbX (i - l.length) with h2|h2
      . exact h2
      . rw[getElem?_eq_none (by simp only[zbd,zbp];omega)] at e;cases e
     rw[h0] at e;cases e;have:i=n:=aa;rw[this];exact hy
theorem Y5 {e:TypeId}{q:List AV->Prop}{a:Addr}{len cap:Nat}(hsz:0<P.cellsOf e)(hcap:len≤cap)
 (h:∀i,i<len->∃cs av,w.cells? 0 (a.add (i * P.cellsOf e)) (P.cellsOf e)=some cs∧aP (lk w) w av cs∧q av) :
 ∃es,es.length=len∧Rel (lk w) w (.ak (P.cellsOf e) es) (.slice (some a) len cap)∧∀x∈es,q x:=by
 obtain⟨l,hl,hp⟩:=pick (p:=fun i (x:List Value×List AV)=>w.cells? 0 (a.add (i * P.cellsOf e)) (P.cellsOf e)=some x.1∧aP (lk w) w x.2 x.1∧q x.2) len fun i hi=>by
  obtain⟨cs,av,h1,h2,h3⟩:=h i hi;exact⟨(cs,av),h1,h2,h3⟩
 have hg:∀i (hi:i<len),∃x,l[i]? = some x:=fun i hi=>⟨_,zbf aa⟩
 refine⟨l.map (·.2),by simp[hl],?_,fun x hx=>?_⟩
 . have := Rel.ak (c := lk w) (w := w) (sz := P.cellsOf e) (es := l.map (·.2)) (cap := cap) (a := a) (fun i j => ((l[i]?.map (·.1)).bind (·[j]?)).getD .nilFunc) (by simpa [hl] using hcap) ?_ ?_ ?_ ?_
   . simpa[hl] using this
   . intro h0
     obtain⟨x,hx⟩:=hg 0 (by simpa[hl] using h0)
     have h1:=World.cells?_block (hp 0 x hx).1 hsz;rw[block_add] at h1;exact h1
   . intro i y hy
     rw[zbC] at hy;cases hx:l[i]? with
     | none=>rw[hx] at hy;cases hy
     | some x =>
       rw[hx] at hy;cases hy;obtain⟨h1,h2,_⟩:=hp i x hx;rw[h2.1];exact(World.cells?_some h1).2.1
   . intro i j hi hj
     obtain⟨x,hx⟩:=hg i (by simpa[hl] using hi)
     obtain⟨h1,h2,_⟩:=hp i x hx;obtain⟨_,hn,hc⟩:=World.cells?_some h1;have:=hc j hj;rw[Addr.add_add] at this;rw[this,hx];have hj':j<x.1.length:=aa;simp[hj']
   . intro i j y z hy hz
     rw[zbC] at hy;cases hx:l[i]? with
     | none=>rw[hx] at hy;cases hy
     | some x =>
       rw[hx] at hy;cases hy;obtain⟨h1,h2,_⟩:=hp i x hx;obtain⟨v,hv,hr⟩:=h2.get hz;simp only[zcn,zc0,hv,zcb];exact hr
 . obtain ⟨y, hy, rfl⟩ := zbG.1 hx
   obtain⟨i,hi⟩:=getElem?_of_mem hy;exact(hp i y hi).2.2
theorem NG {e:TypeId}:∀(l:List (DataW H)) (d:DataW H),d∈l->∀n∈d.weights P e,n∈DataW.weightsAll P e l
 | [],d,h,_,_=>by cases h
 | x :: l, d, h, n, hn => by
   rw[DataW.weightsAll];rcases zbB.1 h with rfl|h
   . exact zc9 _ hn
   . exact mem_append_right _ (NG l d h n hn)
theorem El:∀(ts:List TypeId) (l:List (DataW H)) (i:Nat) (t:TypeId) (d:DataW H),ts[i]? = some t->l[i]? = some d->∀n∈d.weights P t,n∈DataW.weightsEach P ts l
 | [],_,i,_,_,h,_,_,_=>by simp at h
 | _::_,[],i,_,_,_,h,_,_=>by simp at h
 | t :: ts, x :: l, i, t', d, h1, h2, n, hn => by
   rw[DataW.weightsEach];cases i with
   | zero=>simp at h1 h2;subst h1;subst h2;exact zc9 _ hn
   | succ i=>exact mem_append_right _ (El ts l i t' d (by simpa using h1) (by simpa using h2) n hn)
theorem Cb:∀(fuel:Nat) (t:TypeId) (cs:List Value) (x:DataW H×List MemPlace),DataW.trod enc P w 0 spare held fuel t cs=some x->(∀n∈x.1.weights P t,n≤reachBytes)->
 ∃a,aP (lk w) w a cs∧gV P fuel t a
 | 0,t,cs,x,h,_=>by simp[DataW.trod] at h
 | fuel + 1, t, cs, x, h, hw => by
   unfold gV;cases hu:P.underlying t with
   | none=>exact⟨_,tX cs,trivial⟩
   | some d =>
     cases d with
     | bool =>
       obtain⟨b,rfl,_⟩:=DataW.trod_bool hu h;exact⟨[.bool b],oK (.bool _),b,rfl⟩
     | int k =>
       obtain⟨n,rfl,_,_⟩:=DataW.trod_int hu h;exact⟨_,oK (.int k n),n,rfl⟩
     | string =>
       obtain⟨s,rfl,rfl,_⟩:=DataW.trod_string hu h;refine⟨_,oK (LO s),_,rfl,hw _ ?_⟩;simp[DataW.weights]
     | slice e =>
       by_cases hb:0<P.bytesOf e
       . by_cases hc : 0 < P.cellsOf e
         . rcases DataW.trod_slice hu h with ⟨rfl, rfl⟩ | ⟨a, len, cap, elems, rest, n, hn, rfl, rfl, _, hlc, _, hel, hg, _, _⟩
           . exact⟨_,oK (.fh (P.cellsOf e)),fun _ _=>⟨[],rfl,zbq _,fun x hx=>by cases hx⟩⟩
           . obtain rfl : n = fuel := aa
             have hlen:len≤reachBytes:=by
              have h1:=hw ((((elems.map (·.1)).length+(rest.map (·.1)).length)) * P.bytesOf e) (by simp[DataW.weights,hu])
              simp only[zba] at h1;have h2:len * 1≤(elems.length+rest.length) * P.bytesOf e:=Nat.mul_le_mul aa hb;omega
             obtain⟨es,h1,h2,h3⟩:=Y5 (w:=w) (P:=P) (e:=e) (q:=gV P n e) (a:=a) (len:=len) (cap:=cap) hc hlc fun i hi=>by
              have hgi:=hg i hi;rw[zbf aa] at hgi;obtain⟨ci,hci,hti⟩:=Option.bind_eq_some_iff.1 hgi;obtain ⟨av, hr, hs⟩ := Cb n e ci elems[i] hti fun m hm => hw m (by
               have:elems[i].1∈elems.map (·.1):=zbG.2 ⟨_,za9 _,rfl⟩;simp only[DataW.weights,hu];exact zbO _ (zc9 _ (NG _ _ this m hm)))
              exact⟨ci,av,hci,hr,hs⟩
             exact⟨_,oK h2,fun _ _=>⟨es,rfl,aa,h3⟩⟩
         . exact⟨_,tX cs,fun _ h=>absurd h hc⟩
       . exact⟨_,tX cs,fun h=>absurd h hb⟩
     | struct fs =>
       obtain⟨xs,n,hn,rfl,hl,hxl,hg⟩:=DataW.trod_struct hu h;obtain rfl:n=fuel:=aa
       by_cases ho:lE P fs.toList 0 (P.cellsOf t)=true
       . obtain⟨a,ha,hs⟩:=G6 (c:=lk w) (w:=w) (q:=gV P n) (cs:=cs) fs.toList 0 (by rw[hl];exact ho) fun f hf=>by
          obtain⟨i,hi⟩:=getElem?_of_mem hf;have hfi:fs[i]? = some f:=by simpa using hi
          have hlt:i<xs.length:=by
           rw[hxl];exact(zb6.1 hfi).1
          have hgi:=hg i f hfi;rw[zbf hlt] at hgi;exact Cb n f.type _ xs[i] hgi fun m hm => hw m (by
           simp only[DataW.weights,hu];exact El _ _ i f.type xs[i].1 (by simp[hfi]) (by simp[hlt]) m hm)
         exact⟨a,by simpa using ha,fun _=>hs⟩
       . exact⟨_,tX cs,fun h=>absurd h ho⟩
     | _=>exact⟨_,tX cs,trivial⟩
def j_:List (Option (List AV))->Option (List AV)
 | []=>some []
 | x :: r => match x, j_ r with
   | some a,some b=>some (a++b)
   | _,_=>none
def pe (f:TypeId->DataW H->Option (List AV)):List Field->List (DataW H)->List (Option (List AV))
 | g::gs,d::ds=>f g.type d::pe f gs ds
 | [],[]=>[]
 | _,_=>[none]
def rC (P:Program):Nat->TypeId->DataW H->Option (List AV)
 | 0,_,_=>none
 | n + 1, t, d => match P.underlying t, d with
   | some .bool,.lit (.bool b)=>some [.bool b]
   | some (.int _),.lit (.int k m)=>some [.int k m]
   | some .string,.lit (.string l)=>some [.str l]
   | some (.array _ e),.agg ps=>if P.cellsOf t=ps.length * P.cellsOf e then j_ (ps.map (rC P n e)) else none
   | some (.struct fs),.agg ps=>if lE P fs.toList 0 (P.cellsOf t)=true then j_ (pe (rC P n) fs.toList ps) else none
   | _,_=>none
theorem FA {f:DataW H->Option (List AV)}{sz:Nat}:∀(ps:List (DataW H)) (cs:List Value) (a:List AV),j_ (ps.map f)=some a->cs.length=ps.length * sz->
 (∀(i:Nat) d b,ps[i]? = some d->f d=some b->aP c w b ((cs.drop (i * sz)).take sz))->aP c w a cs
 | [], cs, a, h, hl, _ => by
   simp[j_] at h;subst h;have:cs=[]:=zbh (by simpa using hl)
   subst this;exact .nil
 | p :: ps, cs, a, h, hl, hr => by
   simp only[zcq,j_] at h;cases h1:f p with
   | none=>rw[h1] at h;cases h
   | some x =>
     cases h2:j_ (ps.map f) with
     | none=>rw[h1,h2] at h;cases h
     | some y =>
       rw[h1,h2] at h;cases h;have ha:=hr 0 p x rfl h1;rw[Nat.zero_mul,zcV] at ha;have hb:=FA ps (cs.drop sz) y h2 (by rw[zcc,hl,zbd,zcs,Nat.one_mul,Nat.add_sub_cancel]) fun i d b hd hb=>by
        have:=hr (i+1) d b (by simpa using hd) hb
        rw[succ_mul,Nat.add_comm,<-drop_drop] at this;exact this
       have:=ha.append hb
       rwa [zb7] at this
theorem FB {f:TypeId->DataW H->Option (List AV)}{cs:List Value}:∀(fs:List Field) (ps:List (DataW H)) (o:Nat) (a:List AV),lE P fs o cs.length=true->j_ (pe f fs ps)=some a->
 (∀(i:Nat) g d b,fs[i]? = some g->ps[i]? = some d->f g.type d=some b->aP c w b ((cs.drop g.offset).take (P.cellsOf g.type)))->aP c w a (cs.drop o)
 | [], [], o, a, ho, h, _ => by
   simp[pe,j_] at h;subst h;have:o=cs.length:=by simpa[lE] using ho
   rw[this,drop_length];exact .nil
 | [],_::_,o,a,_,h,_=>by simp[pe,j_] at h
 | _::_,[],o,a,_,h,_=>by simp[pe,j_] at h
 | g :: fs, d :: ps, o, a, ho, h, hr => by
   simp only[lE,zbe,zb1] at ho;obtain⟨ho1,ho2⟩:=ho;simp only[pe,j_] at h;cases h1:f g.type d with
   | none=>rw[h1] at h;cases h
   | some x =>
     cases h2:j_ (pe f fs ps) with
     | none=>rw[h1,h2] at h;cases h
     | some y =>
       rw[h1,h2] at h;cases h;have ha:=hr 0 g d x rfl rfl h1;rw[ho1] at ha;have:=ha.append (FB fs ps _ y ho2 h2 fun i g' d' b e1 e2=>hr (i+1) g' d' b (by simpa using e1) (by simpa using e2))
       rw[<-drop_drop,zb7] at this;exact this
theorem D7:∀(m:Nat) (fuel:Nat) (t:TypeId) (cs:List Value) (x:DataW H×List MemPlace) (a:List AV),DataW.trod enc P w 0 spare held fuel t cs=some x->rC P m t x.1=some a->aP c w a cs
 | 0,_,_,_,_,_,_,h=>by simp[rC] at h
 | m + 1, fuel, t, cs, x, a, h, hd => by
   unfold rC at hd;cases hu:P.underlying t with
   | none=>rw[hu] at hd;cases hd
   | some d =>
     rw[hu] at hd;cases d with
     | bool =>
       obtain⟨b,rfl,rfl⟩:=DataW.trod_bool hu h;simp at hd;subst hd;exact oK (.bool _)
     | int k =>
       obtain⟨n,rfl,rfl,_⟩:=DataW.trod_int hu h;simp at hd;subst hd;exact oK (.int k n)
     | string =>
       obtain⟨s,rfl,rfl,_⟩:=DataW.trod_string hu h;simp at hd;subst hd;exact oK (LO s)
     | array n e =>
       obtain⟨xs,k,rfl,rfl,hl,hxl,hg⟩:=DataW.trod_array hu h;simp only at hd;split at hd
       . rename_i hn
         refine FA (sz:=P.cellsOf e) (xs.map (·.1)) cs a hd (by rw[hl,hn]) fun i d b e1 e2=>?_
         rw[zbC] at e1;cases hx:xs[i]? with
         | none=>rw[hx] at e1;cases e1
         | some y =>
           rw[hx] at e1;cases e1;have hi:i<n:=by rw[<-hxl];exact(zbn.1 hx).1
           exact D7 m k e _ y b ((hg i hi).trans hx) e2
       . cases hd
     | struct fs =>
       obtain⟨xs,k,rfl,rfl,hl,hxl,hg⟩:=DataW.trod_struct hu h;simp only at hd;split at hd
       . rename_i ho
         have:=FB (P:=P) (c:=c) (w:=w) (cs:=cs) fs.toList (xs.map (·.1)) 0 a (by rw[hl];exact ho) hd fun i g d b e0 e1 e2=>by
          rw[zbC] at e1;cases hx:xs[i]? with
          | none=>rw[hx] at e1;cases e1
          | some y =>
            rw[hx] at e1;cases e1;exact D7 m k g.type _ y b ((hg i g (by simpa using e0)).trans hx) e2
         simpa using this
       . cases hd
     | _=>cases hd
theorem YP {n:Nat}{t:TypeId}{v:List AV}(h:gV P n t v)(u:P.underlying t=some .bool):∃b,v=[.bool b]:=by
 cases n with
 | zero=>exact h.elim
 | succ n=>unfold gV at h;rw[u] at h;exact h
theorem YQ {n:Nat}{t:TypeId}{v:List AV}{k:IntKind}(h:gV P n t v)(u:P.underlying t=some (.int k)):∃m,v=[.int k m]:=by
 cases n with
 | zero=>exact h.elim
 | succ n=>unfold gV at h;rw[u] at h;exact h
theorem YR {n:Nat}{t:TypeId}{v:List AV}(h:gV P n t v)(u:P.underlying t=some .string):∃l:List UInt8,v=[.str l]∧l.length≤reachBytes:=by
 cases n with
 | zero=>exact h.elim
 | succ n=>unfold gV at h;rw[u] at h;exact h
theorem La {n:Nat}{t e:TypeId}{v:List AV}(h:gV P n t v)(u:P.underlying t=some (.slice e))(hb:blt 0 (P.bytesOf e)=true)(hc:blt 0 (P.cellsOf e)=true) :
 ∃m es,n=m+1∧v=[.ak (P.cellsOf e) es]∧es.length≤reachBytes∧∀x∈es,gV P m e x:=by
 cases n with
 | zero=>exact h.elim
 | succ n =>
   unfold gV at h;rw[u] at h;obtain⟨es,h1,h2,h3⟩:=h (zbb hb) (zbb hc);exact⟨n,es,rfl,h1,h2,h3⟩
theorem jX {n:Nat}{t:TypeId}{v:List AV}{fs:Array Field}(h:gV P n t v)(u:P.underlying t=some (.struct fs))(hf:lE P fs.toList 0 (P.cellsOf t)=true) :
 ∃m,n=m+1∧yU (gV P m) (fs.toList.map (·.type)) v:=by
 cases n with
 | zero=>exact h.elim
 | succ n=>unfold gV at h;rw[u] at h;exact⟨n,rfl,h hf⟩
end
theorem Kz {α:Type}{g:α->List AV}:∀(es:List (List AV)),(∀x∈es,∃a,x=g a)->∃l:List α,es=l.map g
 | [],_=>⟨[],rfl⟩
 | x :: es, h => by
   obtain⟨a,ha⟩:=h x ag;obtain⟨l,hl⟩:=Kz es fun y hy=>h y (by simp[hy])
   exact⟨a::l,by rw[ha,hl];rfl⟩
end Go.Ago
end
section
namespace Go.Ago
open List Nat
open Go.ChangeShapes
section
variable {H:Type} {enc:TypeId×Value->H} {P:Program} {w w':World} {base:Nat} {spare:Nat->Bool} {held:Bool}
theorem D6 {n:String}{g:Nat}{t:TypeId}{cs:Array Value}{fuel m:Nat}{d:DataW H}{p:List MemPlace}{a:List AV}(hg:P.globalNamed n=some g)(hv:w.var? P n=some cs)
 (hd:DataW.trod enc P w 0 spare held fuel t cs.toList=some (d,p))(ha:rC P m t d=some a):Rel (lk w) w (.bm a) (.pointer (some ⟨g,0,none⟩)):=by
 have hr:aP (lk w) w a cs.toList:=D7 m fuel t cs.toList (d,p) a hd ha;have hlt:g<w.heap.size:=by
  simp only[World.var?,hg,zc0] at hv;split at hv
  . rename_i h
    exact(zb6.1 h).1
  . cases hv
 refine .bm hlt hr.1 (fun i v e=>?_) fun i x v e e'=>hr.2 i x v e e'
 have h1:=World.var?_cell hg hv i;rw[show(⟨g,0,none⟩:Addr).add i=⟨g,i,none⟩ by rw[add_plain,zce],h1]
 simpa using e
theorem N9 {c:Ctx}{cs:List AV}{v:Value}{n:Nat}(h:aP c w cs v.cells.toList)(hv:∃l,v = .agg l):Rel c w (.agg cs) v:=by
 obtain⟨l,rfl⟩:=hv;have:=Rel.agg (c:=c) (w:=w) (cs:=cs) (vs:=l.toList) h.1 h.2
 simpa using this
theorem Fy:∀{ts:List TypeId} {vs:List Value} {ds:List (DataW H)} {ps:List MemPlace},DataW.TrodAll enc P w base spare held ts vs ds ps->(∀p∈ps,w.sameAt w' p)->DataW.TrodAll enc P w' base spare held ts vs ds ps
 | [],[],[],_,h,_=>h
 | _::_,_::_,_::_,_,⟨p,q,⟨n,h1⟩,h2,e⟩,hs=>⟨p,q,⟨n,DataW.trod_carry n _ _ _ h1 fun x hx=>hs x (by rw[e];exact zc9 _ hx)⟩,Fy h2 (fun x hx=>hs x (by rw[e];exact mem_append_right _ hx)),e⟩
 | [],[],_::_,_,h,_=>h.elim
 | [],_::_,_,_,h,_=>h.elim
 | _::_,[],_,_,h,_=>h.elim
 | _::_,_::_,[],_,h,_=>h.elim
theorem Yl {p:MemPlace}(hb:∀b,b<w.heap.size->w'.heap[b]? = w.heap[b]?)(hp:p.block<w.heap.size):w.sameAt w' p:=by
 cases p with
 | cell b o=>exact wz (hb b hp)
 | map b=>exact hb b hp
theorem UI {may:MemPlace->Prop}(ho:w'.os=w.os)(hu:w'.output=w.output)(hb:∀b,b<w.heap.size->w'.heap[b]? = w.heap[b]?):w.keptBut w' may:=by
 refine⟨ho,hu,fun i hi=>?_⟩
 rw[hb i hi];split
 . rename_i h1 h2
   rw[h1] at h2;simp only[zbg,Obj.cells.injEq] at h2;obtain⟨rfl,rfl,rfl⟩:=h2;exact⟨rfl,rfl,rfl,fun _ _=>rfl⟩
 . rename_i h1 h2
   rw[h1] at h2;simp only[zbg,Obj.map.injEq] at h2;exact .inr ⟨h2.1.symm,h2.2.symm⟩
 . rfl
theorem Xh {f:Func}{s:ChangeSpec}{apart fresh handsOn:Bool}{args:Array Value}{ds gs:List (DataW H)}{before:List MemPlace}{T:TypeId->Prop}
 (K:Kids P T)(hz:∀t e,T t->P.underlying t=some (.slice e)->0<P.cellsOf e)(hT:∀t∈f.params.toList,T t)(hv:s.vars=[])
 (hW:DataW.Whole enc P f.params.toList s.vars apart w args.toList ds gs before)(hs:s.fn H (ds++gs)={ results:=[.lit (.bool true)],args:=ds }){tb:TypeId}(hr:f.resultTypes=#[tb])(hb:P.underlying tb=some .bool)
 (ho:w'.os=w.os)(hu:w'.output=w.output)(hh:∀b,b<w.heap.size->w'.heap[b]? = w.heap[b]?) :
 s.post enc P f apart fresh handsOn false w args (.bool true) w':=by
 have hlt:=hW.lt;have hW0:=hW;obtain⟨p,q,hA,hV,rfl,hfz,hnd⟩:=hW;rw[hv] at hV;obtain⟨rfl,rfl⟩:=trodVars_none hV;refine⟨ds,[],p++[],[],p,[],hW0,?_,?_,?_,UI ho hu hh,fun h=>by cases h⟩
 . rw [hs, hr]
   exact trodAll_mk1 (Go.RowKit.shut_bool hb _)
 . rw [hs]
   exact Fy (hA.respare K hz hT fun x hx=>by simpa using hlt x (by simpa using hx)) fun x hx=>Yl hh (hlt x (by simpa using hx))
 . rw [hs, hv]
   exact rfl
end
end Go.Ago
end
namespace Go.Ago
open Go.Proofs List Nat Tryz
abbrev en (n:Nat)(t:TypeId)(v:List AV):Prop:=gV prog n t v
theorem Az {n:Nat}(h:n≤reachBytes):n<281474976710656:=by unfold reachBytes at h;omega
theorem nP {α:Type}{g:α->List AV}{n sz:Nat}{t e:TypeId}{v:List AV}(h:en n t v)(u:prog.underlying t=some (.slice e))(hb:blt 0 (prog.bytesOf e)=true)(hc:blt 0 (prog.cellsOf e)=true)
 (hz:prog.cellsOf e=sz)(hi:∀m x,en m e x->∃a,x=g a):∃l:BL α,v=[.ak sz (l.l.map g)]:=by
 obtain⟨m,es,rfl,rfl,hl,hx⟩:=La h u hb hc;obtain⟨l,rfl⟩:=Kz (g:=g) es fun x hm=>hi m x (hx x hm)
 exact⟨⟨l,by simpa using Az hl⟩,by rw[hz]⟩
theorem qK {p:List AV->Prop}{n sz:Nat}{t e:TypeId}{v:List AV}(h:en n t v)(u:prog.underlying t=some (.slice e))(hb:blt 0 (prog.bytesOf e)=true)(hc:blt 0 (prog.cellsOf e)=true)
 (hz:prog.cellsOf e=sz)(hi:∀m,m<n->∀x,en m e x->p x):∃l:BL (List AV),v=[.ak sz l.l]∧∀x∈l.l,p x:=by
 obtain⟨m,es,rfl,rfl,hl,hx⟩:=La h u hb hc;exact⟨⟨es,Az hl⟩,by rw[hz],fun x hm=>hi m aa x (hx x hm)⟩
theorem dH {n:Nat}{v:List AV}(h:en n 3 v):∃m,v=[i64 m]:=YQ h underlying3
theorem uG {n:Nat}{v:List AV}(h:en n 4 v):∃b,v=[.bool b]:=YP h underlying4
theorem r8 {n:Nat}{v:List AV}(h:en n 9 v):∃s:BL UInt8,v=[.str s.l]:=by
 obtain⟨l,rfl,hl⟩:=YR h underlying9;exact⟨⟨l,Az hl⟩,rfl⟩
theorem HS {n:Nat}{v:List AV}(h:en n 26 v):∃l:BL (Int),v=[.ak 1 (l.l.map (fun n=>[i64 n]))]:=nP h underlying26 aG aG aG fun _ _ h=>dH h
theorem Tw {n:Nat}{v:List AV}(h:en n 25 v):∃l:BL (BL UInt8),v=[.ak 1 (l.l.map (fun s:BL UInt8=>[.str s.l]))]:=nP h underlying25 aG aG aG fun _ _ h=>r8 h
theorem qe {n:Nat}{v:List AV}(h:en n 56 v):∃x:Ty,v=x.cells:=by
 obtain⟨m,rfl,hF⟩:=jX h underlying56 aG;obtain⟨a0,_,rfl,h0,a1,_,rfl,h1,a2,_,rfl,h2,a3,_,rfl,h3,a4,_,rfl,h4,rfl⟩:=hF;obtain⟨x0,rfl⟩:=dH h0;obtain⟨x1,rfl⟩:=dH h1;obtain⟨x2,rfl⟩:=dH h2;obtain⟨x3,rfl⟩:=uG h3;obtain⟨x4,rfl⟩:=r8 h4;exact⟨⟨x0,x1,x2,x3,x4.l,x4.h⟩,rfl⟩
theorem B9 {n:Nat}{v:List AV}(h:en n 58 v):∃x:Vl,v=x.cells:=by
 obtain⟨m,rfl,hF⟩:=jX h underlying58 aG;obtain⟨a0,_,rfl,h0,a1,_,rfl,h1,rfl⟩:=hF;obtain⟨x0,rfl⟩:=dH h0;obtain⟨x1,rfl⟩:=r8 h1;exact⟨⟨x0,x1.l,x1.h⟩,rfl⟩
theorem HU {n:Nat}{v:List AV}(h:en n 60 v):∃l:BL (Ty),v=[.ak 5 (l.l.map Ty.cells)]:=nP h underlying60 aG aG aG fun _ _ h=>qe h
theorem Tt {n:Nat}{v:List AV}(h:en n 209 v):∃x:Fm,v=x.cells:=by
 obtain⟨m,rfl,hF⟩:=jX h underlying209 aG;obtain⟨a0,_,rfl,h0,a1,_,rfl,h1,a2,_,rfl,h2,a3,_,rfl,h3,rfl⟩:=hF;obtain⟨x0,rfl⟩:=dH h0;obtain⟨x1,rfl⟩:=dH h1;obtain⟨x2,rfl⟩:=dH h2;obtain⟨x3,rfl⟩:=r8 h3;exact⟨⟨x0,x1,x2,x3⟩,rfl⟩
theorem HT {n:Nat}{v:List AV}(h:en n 59 v):∃l:BL (Fm),v=[.ak 4 (l.l.map Fm.cells)]:=nP h underlying59 aG aG aG fun _ _ h=>Tt h
theorem Tp {n:Nat}{v:List AV}(h:en n 122 v):∃x:Fl,v=x.cells:=by
 obtain⟨m,rfl,hF⟩:=jX h underlying122 aG;obtain⟨a0,_,rfl,h0,a1,_,rfl,h1,rfl⟩:=hF;obtain⟨x0,rfl⟩:=r8 h0;obtain⟨x1,rfl⟩:=dH h1;exact⟨⟨x0,x1⟩,rfl⟩
theorem Tv {n:Nat}{v:List AV}(h:en n 24 v):∃l:BL (Fl),v=[.ak 2 (l.l.map Fl.cells)]:=nP h underlying24 aG aG aG fun _ _ h=>Tp h
theorem Ts {n:Nat}{v:List AV}(h:en n 203 v):∃x:iR,v=x.cells:=by
 obtain⟨m,rfl,hF⟩:=jX h underlying203 aG;obtain⟨a0,_,rfl,h0,a1,_,rfl,h1,a2,_,rfl,h2,rfl⟩:=hF;obtain⟨x0,rfl⟩:=dH h0;obtain⟨x1,rfl⟩:=qe h1;obtain⟨x2,rfl⟩:=B9 h2;exact⟨⟨x0,x1,x2⟩,rfl⟩
theorem HQ {n:Nat}{v:List AV}(h:en n 23 v):∃l:BL (iR),v=[.ak 8 (l.l.map iR.cells)]:=nP h underlying23 aG aG aG fun _ _ h=>Ts h
theorem TF {n:Nat}{v:List AV}(h:en n 62 v):∃x:Ins,v=x.cells:=by
 obtain⟨m,rfl,hF⟩:=jX h underlying62 aG;obtain⟨a0,_,rfl,h0,a1,_,rfl,h1,a2,_,rfl,h2,a3,_,rfl,h3,a4,_,rfl,h4,a5,_,rfl,h5,a6,_,rfl,h6,a7,_,rfl,h7,a8,_,rfl,h8,a9,_,rfl,h9,a10,_,rfl,h10,a11,_,rfl,uD,a12,_,rfl,h12,a13,_,rfl,h13,a14,_,rfl,h14,a15,_,rfl,h15,rfl⟩:=hF;obtain⟨x0,rfl⟩:=dH h0;obtain⟨x1,rfl⟩:=dH h1;obtain⟨x2,rfl⟩:=dH h2;obtain⟨x3,rfl⟩:=dH h3;obtain⟨x4,rfl⟩:=qe h4;obtain⟨x5,rfl⟩:=qe h5;obtain⟨x6,rfl⟩:=qe h6;obtain⟨x7,rfl⟩:=dH h7;obtain⟨x8,rfl⟩:=dH h8;obtain⟨x9,rfl⟩:=dH h9;obtain⟨x10,rfl⟩:=B9 h10;obtain⟨x11,rfl⟩:=HT uD;obtain⟨x12,rfl⟩:=HS h12;obtain⟨x13,rfl⟩:=HU h13;obtain⟨x14,rfl⟩:=uG h14;obtain⟨x15,rfl⟩:=uG h15;exact⟨⟨x0,x1,x2,x3,x4,x5,x6,x7,x8,x9,x10,x11,x12,x13,x14,x15⟩,rfl⟩
theorem TC {n:Nat}{v:List AV}(h:en n 42 v):∃l:BL (Ins),v=[.ak 29 (l.l.map Ins.cells)]:=nP h underlying42 aG aG aG fun _ _ h=>TF h
theorem TE {n:Nat}{v:List AV}(h:en n 44 v):∃x:Bd,v=x.cells:=by
 obtain⟨m,rfl,hF⟩:=jX h underlying44 aG;obtain⟨a0,_,rfl,h0,a1,_,rfl,h1,rfl⟩:=hF;obtain⟨x0,rfl⟩:=dH h0;obtain⟨x1,rfl⟩:=TC h1;exact⟨⟨x0,x1⟩,rfl⟩
theorem TA {n:Nat}{v:List AV}(h:en n 29 v):∃l:BL (Bd),v=[.ak 2 (l.l.map Bd.cells)]:=nP h underlying29 aG aG aG fun _ _ h=>TE h
theorem j8.up {E F:List AV->Prop}(h:∀x,E x->F x){v:List AV}(hv:j8 E v):j8 F v:=by
 obtain⟨b,u,n,o,p,s,t,rfl,h1,h2⟩:=hv;refine⟨b,u,n,o,p,s,t,rfl,fun x hx=>h x (h1 x hx),fun x hx=>?_⟩
 obtain⟨e,lo,hi,st,rfl,he⟩:=h2 x hx;exact⟨e,lo,hi,st,rfl,h e he⟩
theorem cP.Eg:∀(d:Nat) (v:List AV),cP d v->cP (d+1) v
 | 0,_,h=>h.elim
 | d+1,v,⟨op,t,w,n,l,r,e,h1,h2⟩=>⟨op,t,w,n,l,r,e,fun x hx=>cP.Eg d x (h1 x hx),fun x hx=>(h2 x hx).up fun y hy=>cP.Eg d y hy⟩
theorem cP.up {d e:Nat}(h:d≤e){v:List AV}(hv:cP d v):cP e v:=by
 induction h with
 | refl=>exact hv
 | step _ ih=>exact cP.Eg _ _ ih
theorem Tx {d n:Nat}(ih:∀m,m<n->∀v,en m 230 v->cP d v){v:List AV}(h:en n 275 v):rh (cP d) v:=by
 obtain⟨m,rfl,hF⟩:=jX h underlying275 aG;obtain⟨a0,_,rfl,h0,a1,_,rfl,h1,a2,_,rfl,h2,a3,_,rfl,h3,rfl⟩:=hF;obtain⟨x1,rfl⟩:=dH h1;obtain⟨x2,rfl⟩:=dH h2;obtain⟨x3,rfl⟩:=dH h3;exact⟨a0,x1,x2,x3,rfl,ih m aa _ h0⟩
theorem HP {d n:Nat}(ih:∀m,m<n->∀v,en m 230 v->cP d v){v:List AV}(h:en n 227 v):j8 (cP d) v:=by
 obtain⟨m,rfl,hF⟩:=jX h underlying227 aG;obtain⟨a0,_,rfl,h0,a1,_,rfl,h1,a2,_,rfl,h2,a3,_,rfl,h3,a4,_,rfl,h4,a5,_,rfl,h5,a6,_,rfl,h6,rfl⟩:=hF;obtain⟨x0,rfl⟩:=dH h0;obtain⟨x1,rfl⟩:=dH h1;obtain⟨x2,rfl⟩:=dH h2;obtain⟨x3,rfl⟩:=dH h3;obtain⟨p,rfl,hp⟩:=qK (sz:=11) (p:=cP d) h4 underlying179 aG aG aG fun k hk x hx=>ih k aa x hx
 obtain⟨s,rfl,hs⟩:=qK (sz:=14) (p:=rh (cP d)) h5 underlying225 aG aG aG fun k hk x hx=>Tx (fun j hj=>ih j aa) hx
 obtain⟨t,rfl⟩:=qe h6;exact⟨x0,x1,x2,x3,p,s,t,rfl,hp,hs⟩
theorem HR:∀(n:Nat) (v:List AV),en n 230 v->cP n v:=by
 intro n
 induction n using Nat.strongRecOn with
 | ind n ih =>
   intro v h;obtain⟨m,rfl,hF⟩:=jX h underlying230 aG;obtain⟨a0,_,rfl,h0,a1,_,rfl,h1,a2,_,rfl,h2,a3,_,rfl,h3,a4,_,rfl,h4,a5,_,rfl,h5,rfl⟩:=hF;obtain⟨x0,rfl⟩:=dH h0;obtain⟨t,rfl⟩:=qe h1;obtain⟨w,rfl⟩:=B9 h2;obtain⟨x3,rfl⟩:=dH h3;obtain⟨l,rfl,hl⟩:=qK (sz:=11) (p:=cP m) h4 underlying179 aG aG aG fun k hk x hx=>(ih k aa x hx).up aa
   obtain⟨r,rfl,hr⟩:=qK (sz:=11) (p:=j8 (cP m)) h5 underlying178 aG aG aG fun k hk x hx=>HP (fun j hj y hy=>(ih j aa y hy).up aa) hx
   exact⟨x0,t,w,x3,l,r,rfl,hl,hr⟩
theorem Tq {n:Nat}{v:List AV}(h:en n 181 v):mR n v:=by
 obtain⟨m,rfl,hF⟩:=jX h underlying181 aG;obtain⟨a0,_,rfl,h0,a1,_,rfl,h1,a2,_,rfl,h2,a3,_,rfl,h3,a4,_,rfl,h4,a5,_,rfl,h5,a6,_,rfl,h6,a7,_,rfl,h7,a8,_,rfl,h8,a9,_,rfl,h9,a10,_,rfl,h10,rfl⟩:=hF;obtain⟨x0,rfl⟩:=dH h0;obtain⟨x1,rfl⟩:=dH h1;obtain⟨r,rfl,hr⟩:=qK (sz:=11) (p:=j8 (cP (m+1))) h2 underlying178 aG aG aG fun k hk x hx=>HP (fun j hj y hy=>(HR j y hy).up aa) hx
 obtain⟨e,rfl,he⟩:=qK (sz:=11) (p:=cP (m+1)) h3 underlying179 aG aG aG fun k hk x hx=>(HR k x hx).up aa
 obtain⟨x4,rfl⟩:=dH h4;obtain⟨x5,rfl⟩:=dH h5;obtain⟨x6,rfl⟩:=dH h6;obtain⟨f,rfl⟩:=HT h7;obtain⟨x8,rfl⟩:=dH h8;obtain⟨x9,rfl⟩:=uG h9;obtain⟨x10,rfl⟩:=uG h10;exact⟨x0,x1,r,e,x4,x5,x6,f,x8,x9,x10,rfl,hr,he⟩
theorem mR.up {d e:Nat}(h:d≤e){v:List AV}(hv:mR d v):mR e v:=by
 obtain⟨x0,x1,r,l,x4,x5,x6,f,x8,x9,x10,rfl,h1,h2⟩:=hv;exact⟨x0,x1,r,l,x4,x5,x6,f,x8,x9,x10,rfl,fun x hx=>(h1 x hx).up fun _ hy=>hy.up h,fun x hx=>(h2 x hx).up h⟩
theorem To {n:Nat}{v:List AV}(h:en n 120 v):∃x:eG,v=x.cells:=by
 obtain⟨m,rfl,hF⟩:=jX h underlying120 aG;obtain⟨a0,_,rfl,h0,a1,_,rfl,h1,a2,_,rfl,h2,a3,_,rfl,h3,a4,_,rfl,h4,a5,_,rfl,h5,a6,_,rfl,h6,rfl⟩:=hF;obtain⟨x0,rfl⟩:=r8 h0;obtain⟨x1,rfl⟩:=dH h1;obtain⟨x2,rfl⟩:=dH h2;obtain⟨x3,rfl⟩:=dH h3;obtain⟨x4,rfl⟩:=HQ h4;obtain⟨x5,rfl,hb⟩:=qK (sz:=11) (p:=mR m) h5 underlying118 aG aG aG fun k hk x hx=>(Tq hx).up aa
 obtain⟨x6,rfl⟩:=HU h6;exact⟨⟨x0,x1,x2,x3,x4,x5,x6,m,hb⟩,rfl⟩
theorem Tu {n:Nat}{v:List AV}(h:en n 22 v):∃l:BL (eG),v=[.ak 7 (l.l.map eG.cells)]:=nP h underlying22 aG aG aG fun _ _ h=>To h
theorem Tz {n:Nat}{v:List AV}(h:en n 28 v):∃x:cQ,v=x.cells:=by
 obtain⟨m,rfl,hF⟩:=jX h underlying28 aG;obtain⟨a0,_,rfl,h0,a1,_,rfl,h1,a2,_,rfl,h2,a3,_,rfl,h3,a4,_,rfl,h4,a5,_,rfl,h5,rfl⟩:=hF;obtain⟨x0,rfl⟩:=Tu h0;obtain⟨x1,rfl⟩:=dH h1;obtain⟨x2,rfl⟩:=HQ h2;obtain⟨x3,rfl⟩:=Tv h3;obtain⟨x4,rfl⟩:=Tw h4;obtain⟨x5,rfl⟩:=HS h5;exact⟨⟨x0,x1,x2,x3,x4,x5⟩,rfl⟩
theorem TB {n:Nat}{v:List AV}(h:en n 31 v):∃x:Cd,v=x.cells:=by
 obtain⟨m,rfl,hF⟩:=jX h underlying31 aG;obtain⟨a0,_,rfl,h0,a1,_,rfl,h1,rfl⟩:=hF;obtain⟨x0,rfl⟩:=Tz h0;obtain⟨x1,rfl⟩:=TA h1;exact⟨⟨x0,x1⟩,rfl⟩
end Go.Ago
