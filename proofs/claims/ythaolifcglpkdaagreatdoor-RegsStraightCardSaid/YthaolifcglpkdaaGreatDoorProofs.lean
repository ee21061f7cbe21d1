/-
  RegsStraight answers true for every input and leaves its arguments as they were: the row, and its tied card. Condition: the listed tables hold what the program's own text lays (the given tie shows that).
-/
import Derived.OpenShut
import Derived.DataElems
import Derived.ChangeOld
import Derived.ChangeArms
import Derived.ProofKit
import Derived.LaidMore
import Derived.ReadAgain
import Derived.Test.YthaolifcglpkdaaGreatDoorTie
import Derived.Test.YthaolifcglpkdaaGreatDoorCards
import Derived.Lay
import Derived.SevenTiedAt
import Derived.Stop.Joined
import Derived.Test.YthaolifcglpkdaaGreatDoorA49
import Derived.Test.YthaolifcglpkdaaGreatDoorA50
set_option maxRecDepth 100000
set_option maxHeartbeats 0
set_option linter.all false
section
namespace Go.Ago
def allC (w:World):Ctx:=⟨fun _=>none,fun b=>b<w.heap.size⟩
def fsOK (P:Program):List Field→Nat→Nat→Bool
 | [],o,n=>o == n
 | f::fs,o,n=>f.offset == o && fsOK P fs (o+P.cellsOf f.type) n
def shFl (q:TypeId→List AV→Prop):List TypeId→List AV→Prop
 | [],vs=>vs=[]
 | t::ts,vs=>∃a r,vs=a++r∧q t a∧shFl q ts r
def shp (P:Program):Nat→TypeId→List AV→Prop
 | 0,_,_=>False
 | n + 1, t, vs => match P.underlying t with
   | some .bool=>∃b,vs=[.bool b]
   | some (.int k)=>∃m,vs=[.int k m]
   | some .string=>∃l:List UInt8,vs=[.str l]∧l.length≤reachBytes
   | some (.slice e)=>0<P.bytesOf e→0<P.cellsOf e→∃es,vs=[.rsl (P.cellsOf e) es]∧es.length≤reachBytes∧∀x∈es,shp P n e x
   | some (.struct fs)=>fsOK P fs.toList 0 (P.cellsOf t)=true→shFl (shp P n) (fs.toList.map (·.type)) vs
   | _=>True
section
variable {H:Type} {enc:TypeId×Value→H} {P:Program} {w:World} {spare:Nat→Bool} {held:Bool} {c:Ctx}
theorem zm7 (cs:List Value):RelL c w (cs.map fun _=>AV.any) cs:=
 ⟨by simp,fun i x v e _=>by
  rw[List.getElem?_map] at e;cases h:cs[i]? with
  | none=>rw[h] at e;cases e
  | some y=>rw[h] at e;cases e;exact .any v⟩
theorem zgq {x:AV}{v:Value}(h:Rel c w x v):RelL c w [x] [v] := .cons h .nil
theorem zyq (s:ByteArray):Rel c w (.str s.data.toList) (.string s):=by
 have h:=Rel.str (c:=c) (w:=w) s.data.toList;obtain⟨⟨l⟩⟩:=s;exact h
theorem flds {q:TypeId→List AV→Prop}{cs:List Value}:∀(fs:List Field) (o:Nat),fsOK P fs o cs.length=true →
 (∀f∈fs,∃a,RelL c w a ((cs.drop f.offset).take (P.cellsOf f.type))∧q f.type a)→∃a,RelL c w a (cs.drop o)∧shFl q (fs.map (·.type)) a
 | [], o, ho, _ => by
   have:o=cs.length:=by simpa[fsOK] using ho
   exact⟨[],by rw[this,List.drop_length];exact .nil,rfl⟩
 | f :: fs, o, ho, h => by
   simp only[fsOK,Bool.and_eq_true,beq_iff_eq] at ho;obtain⟨ho1,ho2⟩:=ho;obtain⟨a,ha,hq⟩:=h f (by simp)
   obtain⟨r,hr,hs⟩:=flds fs _ ho2 fun g hg=>h g (by simp[hg])
   refine⟨a++r,?_,a,r,rfl,hq,hs⟩;rw[ho1] at ha;have:=ha.append hr;rw[← List.drop_drop,List.take_append_drop] at this;exact this
theorem pick {α:Type}{p:Nat→α→Prop}:∀(n:Nat),(∀i,i<n→∃x,p i x)→∃l:List α,l.length=n∧∀i x,l[i]? = some x→p i x
 | 0,_=>⟨[],rfl,fun i x e=>by simp at e⟩
 | n + 1, h => by
   obtain⟨l,hl,hp⟩:=pick (p:=p) n fun i hi=>h i (by omega)
   obtain⟨y,hy⟩:=h n (by omega)
   refine⟨l++[y],by simp[hl],fun i x e=>?_⟩
   rcases Nat.lt_or_ge i l.length with h1|h1
   · exact hp i x (by rwa [List.getElem?_append_left h1] at e)
   · rw [List.getElem?_append_right h1] at e
     have h0:i - l.length=0:=by
      rcases Nat.eq_zero_or_pos (i - l.length) with h2|h2
      · exact h2
      · rw[List.getElem?_eq_none (by simp only[List.length_cons,List.length_nil];omega)] at e;cases e
     rw[h0] at e;cases e;have:i=n:=by omega
     rw[this];exact hy
theorem zyz {e:TypeId}{q:List AV→Prop}{a:Addr}{len cap:Nat}(hsz:0<P.cellsOf e)(hcap:len≤cap)
 (h:∀i,i<len→∃cs av,w.cells? 0 (a.add (i * P.cellsOf e)) (P.cellsOf e)=some cs∧RelL (allC w) w av cs∧q av) :
 ∃es,es.length=len∧Rel (allC w) w (.rsl (P.cellsOf e) es) (.slice (some a) len cap)∧∀x∈es,q x:=by
 obtain⟨l,hl,hp⟩:=pick (p:=fun i (x:List Value×List AV)=>w.cells? 0 (a.add (i * P.cellsOf e)) (P.cellsOf e)=some x.1∧RelL (allC w) w x.2 x.1∧q x.2) len fun i hi=>by
  obtain⟨cs,av,h1,h2,h3⟩:=h i hi;exact⟨(cs,av),h1,h2,h3⟩
 have hg:∀i (hi:i<len),∃x,l[i]? = some x:=fun i hi=>⟨_,List.getElem?_eq_getElem (by omega)⟩
 refine⟨l.map (·.2),by simp[hl],?_,fun x hx=>?_⟩
 · have := Rel.rsl (c := allC w) (w := w) (sz := P.cellsOf e) (es := l.map (·.2)) (cap := cap) (a := a) (fun i j => ((l[i]?.map (·.1)).bind (·[j]?)).getD .nilFunc) (by simpa [hl] using hcap) ?_ ?_ ?_ ?_
   · simpa[hl] using this
   · intro h0
     obtain⟨x,hx⟩:=hg 0 (by simpa[hl] using h0)
     have h1:=World.cells?_block (hp 0 x hx).1 hsz;rw[zet] at h1;exact h1
   · intro i y hy
     rw[List.getElem?_map] at hy;cases hx:l[i]? with
     | none=>rw[hx] at hy;cases hy
     | some x =>
       rw[hx] at hy;cases hy;obtain⟨h1,h2,_⟩:=hp i x hx;rw[h2.1];exact(World.cells?_some h1).2.1
   · intro i j hi hj
     obtain⟨x,hx⟩:=hg i (by simpa[hl] using hi)
     obtain⟨h1,h2,_⟩:=hp i x hx;obtain⟨_,hn,hc⟩:=World.cells?_some h1;have:=hc j hj;rw[Addr.add_add] at this;rw[this,hx];have hj':j<x.1.length:=by omega
     simp[hj']
   · intro i j y z hy hz
     rw[List.getElem?_map] at hy;cases hx:l[i]? with
     | none=>rw[hx] at hy;cases hy
     | some x =>
       rw[hx] at hy;cases hy;obtain⟨h1,h2,_⟩:=hp i x hx;obtain⟨v,hv,hr⟩:=h2.get hz;simp only[Option.map_some,Option.bind_some,hv,Option.getD_some];exact hr
 · obtain ⟨y, hy, rfl⟩ := List.mem_map.1 hx
   obtain⟨i,hi⟩:=List.getElem?_of_mem hy;exact(hp i y hi).2.2
theorem wAll {e:TypeId}:∀(l:List (DataW H)) (d:DataW H),d∈l→∀n∈d.weights P e,n∈DataW.weightsAll P e l
 | [],d,h,_,_=>by cases h
 | x :: l, d, h, n, hn => by
   rw[DataW.weightsAll];rcases List.mem_cons.1 h with rfl|h
   · exact List.mem_append_left _ hn
   · exact List.mem_append_right _ (wAll l d h n hn)
theorem ydg:∀(ts:List TypeId) (l:List (DataW H)) (i:Nat) (t:TypeId) (d:DataW H),ts[i]? = some t→l[i]? = some d→∀n∈d.weights P t,n∈DataW.weightsEach P ts l
 | [],_,i,_,_,h,_,_,_=>by simp at h
 | _::_,[],i,_,_,_,h,_,_=>by simp at h
 | t :: ts, x :: l, i, t', d, h1, h2, n, hn => by
   rw[DataW.weightsEach];cases i with
   | zero=>simp at h1 h2;subst h1;subst h2;exact List.mem_append_left _ hn
   | succ i=>exact List.mem_append_right _ (ydg ts l i t' d (by simpa using h1) (by simpa using h2) n hn)
theorem zvt:∀(fuel:Nat) (t:TypeId) (cs:List Value) (x:DataW H×List MemPlace),DataW.trod enc P w 0 spare held fuel t cs=some x→(∀n∈x.1.weights P t,n≤reachBytes) →
 ∃a,RelL (allC w) w a cs∧shp P fuel t a
 | 0,t,cs,x,h,_=>by simp[DataW.trod] at h
 | fuel + 1, t, cs, x, h, hw => by
   unfold shp;cases hu:P.underlying t with
   | none=>exact⟨_,zm7 cs,trivial⟩
   | some d =>
     cases d with
     | bool =>
       obtain⟨b,rfl,_⟩:=DataW.trod_bool hu h;exact⟨[.bool b],zgq (.bool _),b,rfl⟩
     | int k =>
       obtain⟨n,rfl,_,_⟩:=DataW.trod_int hu h;exact⟨_,zgq (.int k n),n,rfl⟩
     | string =>
       obtain⟨s,rfl,rfl,_⟩:=DataW.trod_string hu h;refine⟨_,zgq (zyq s),_,rfl,hw _ ?_⟩;simp[DataW.weights]
     | slice e =>
       by_cases hb:0<P.bytesOf e
       · by_cases hc : 0 < P.cellsOf e
         · rcases DataW.trod_slice hu h with ⟨rfl, rfl⟩ | ⟨a, len, cap, elems, rest, n, hn, rfl, rfl, _, hlc, _, hel, hg, _, _⟩
           · exact⟨_,zgq (.rnil (P.cellsOf e)),fun _ _=>⟨[],rfl,Nat.zero_le _,fun x hx=>by cases hx⟩⟩
           · obtain rfl : n = fuel := by omega
             have hlen:len≤reachBytes:=by
              have h1:=hw ((((elems.map (·.1)).length+(rest.map (·.1)).length)) * P.bytesOf e) (by simp[DataW.weights,hu])
              simp only[List.length_map] at h1;have h2:len * 1≤(elems.length+rest.length) * P.bytesOf e:=Nat.mul_le_mul (by omega) hb
              omega
             obtain⟨es,h1,h2,h3⟩:=zyz (w:=w) (P:=P) (e:=e) (q:=shp P n e) (a:=a) (len:=len) (cap:=cap) hc hlc fun i hi=>by
              have hgi:=hg i hi;rw[List.getElem?_eq_getElem (by omega)] at hgi
              obtain⟨ci,hci,hti⟩:=Option.bind_eq_some_iff.1 hgi;obtain ⟨av, hr, hs⟩ := zvt n e ci elems[i] hti fun m hm => hw m (by
               have:elems[i].1∈elems.map (·.1):=List.mem_map.2 ⟨_,List.getElem_mem _,rfl⟩;simp only[DataW.weights,hu];exact List.mem_cons_of_mem _ (List.mem_append_left _ (wAll _ _ this m hm)))
              exact⟨ci,av,hci,hr,hs⟩
             exact⟨_,zgq h2,fun _ _=>⟨es,rfl,by omega,h3⟩⟩
         · exact⟨_,zm7 cs,fun _ h=>absurd h hc⟩
       · exact⟨_,zm7 cs,fun h=>absurd h hb⟩
     | struct fs =>
       obtain⟨xs,n,hn,rfl,hl,hxl,hg⟩:=DataW.trod_struct hu h;obtain rfl:n=fuel:=by omega
       by_cases ho:fsOK P fs.toList 0 (P.cellsOf t)=true
       · obtain⟨a,ha,hs⟩:=flds (c:=allC w) (w:=w) (q:=shp P n) (cs:=cs) fs.toList 0 (by rw[hl];exact ho) fun f hf=>by
          obtain⟨i,hi⟩:=List.getElem?_of_mem hf;have hfi:fs[i]? = some f:=by simpa using hi
          have hlt:i<xs.length:=by
           rw[hxl];exact(Array.getElem?_eq_some_iff.1 hfi).1
          have hgi:=hg i f hfi;rw[List.getElem?_eq_getElem hlt] at hgi;exact zvt n f.type _ xs[i] hgi fun m hm => hw m (by
           simp only[DataW.weights,hu];exact ydg _ _ i f.type xs[i].1 (by simp[hfi]) (by simp[hlt]) m hm)
         exact⟨a,by simpa using ha,fun _=>hs⟩
       · exact⟨_,zm7 cs,fun h=>absurd h ho⟩
     | _=>exact⟨_,zm7 cs,trivial⟩
def catO:List (Option (List AV))→Option (List AV)
 | []=>some []
 | x :: r => match x, catO r with
   | some a,some b=>some (a++b)
   | _,_=>none
def zipF (f:TypeId→DataW H→Option (List AV)):List Field→List (DataW H)→List (Option (List AV))
 | g::gs,d::ds=>f g.type d::zipF f gs ds
 | [],[]=>[]
 | _,_=>[none]
def dav (P:Program):Nat→TypeId→DataW H→Option (List AV)
 | 0,_,_=>none
 | n + 1, t, d => match P.underlying t, d with
   | some .bool,.lit (.bool b)=>some [.bool b]
   | some (.int _),.lit (.int k m)=>some [.int k m]
   | some .string,.lit (.string l)=>some [.str l]
   | some (.array _ e),.agg ps=>if P.cellsOf t=ps.length * P.cellsOf e then catO (ps.map (dav P n e)) else none
   | some (.struct fs),.agg ps=>if fsOK P fs.toList 0 (P.cellsOf t)=true then catO (zipF (dav P n) fs.toList ps) else none
   | _,_=>none
theorem yb8 {f:DataW H→Option (List AV)}{sz:Nat}:∀(ps:List (DataW H)) (cs:List Value) (a:List AV),catO (ps.map f)=some a→cs.length=ps.length * sz →
 (∀(i:Nat) d b,ps[i]? = some d→f d=some b→RelL c w b ((cs.drop (i * sz)).take sz))→RelL c w a cs
 | [], cs, a, h, hl, _ => by
   simp[catO] at h;subst h;have:cs=[]:=List.eq_nil_of_length_eq_zero (by simpa using hl)
   subst this;exact .nil
 | p :: ps, cs, a, h, hl, hr => by
   simp only[List.map_cons,catO] at h;cases h1:f p with
   | none=>rw[h1] at h;cases h
   | some x =>
     cases h2:catO (ps.map f) with
     | none=>rw[h1,h2] at h;cases h
     | some y =>
       rw[h1,h2] at h;cases h;have ha:=hr 0 p x rfl h1;rw[Nat.zero_mul,List.drop_zero] at ha;have hb:=yb8 ps (cs.drop sz) y h2 (by rw[List.length_drop,hl,List.length_cons,Nat.add_mul,Nat.one_mul,Nat.add_sub_cancel]) fun i d b hd hb=>by
        have:=hr (i+1) d b (by simpa using hd) hb
        rw[Nat.succ_mul,Nat.add_comm,← List.drop_drop] at this;exact this
       have:=ha.append hb
       rwa [List.take_append_drop] at this
theorem yb7 {f:TypeId→DataW H→Option (List AV)}{cs:List Value}:∀(fs:List Field) (ps:List (DataW H)) (o:Nat) (a:List AV),fsOK P fs o cs.length=true→catO (zipF f fs ps)=some a →
 (∀(i:Nat) g d b,fs[i]? = some g→ps[i]? = some d→f g.type d=some b→RelL c w b ((cs.drop g.offset).take (P.cellsOf g.type)))→RelL c w a (cs.drop o)
 | [], [], o, a, ho, h, _ => by
   simp[zipF,catO] at h;subst h;have:o=cs.length:=by simpa[fsOK] using ho
   rw[this,List.drop_length];exact .nil
 | [],_::_,o,a,_,h,_=>by simp[zipF,catO] at h
 | _::_,[],o,a,_,h,_=>by simp[zipF,catO] at h
 | g :: fs, d :: ps, o, a, ho, h, hr => by
   simp only[fsOK,Bool.and_eq_true,beq_iff_eq] at ho;obtain⟨ho1,ho2⟩:=ho;simp only[zipF,catO] at h;cases h1:f g.type d with
   | none=>rw[h1] at h;cases h
   | some x =>
     cases h2:catO (zipF f fs ps) with
     | none=>rw[h1,h2] at h;cases h
     | some y =>
       rw[h1,h2] at h;cases h;have ha:=hr 0 g d x rfl rfl h1;rw[ho1] at ha;have:=ha.append (yb7 fs ps _ y ho2 h2 fun i g' d' b e1 e2=>hr (i+1) g' d' b (by simpa using e1) (by simpa using e2))
       rw[← List.drop_drop,List.take_append_drop] at this;exact this
theorem zsr:∀(m:Nat) (fuel:Nat) (t:TypeId) (cs:List Value) (x:DataW H×List MemPlace) (a:List AV),DataW.trod enc P w 0 spare held fuel t cs=some x→dav P m t x.1=some a→RelL c w a cs
 | 0,_,_,_,_,_,_,h=>by simp[dav] at h
 | m + 1, fuel, t, cs, x, a, h, hd => by
   unfold dav at hd;cases hu:P.underlying t with
   | none=>rw[hu] at hd;cases hd
   | some d =>
     rw[hu] at hd;cases d with
     | bool =>
       obtain⟨b,rfl,rfl⟩:=DataW.trod_bool hu h;simp at hd;subst hd;exact zgq (.bool _)
     | int k =>
       obtain⟨n,rfl,rfl,_⟩:=DataW.trod_int hu h;simp at hd;subst hd;exact zgq (.int k n)
     | string =>
       obtain⟨s,rfl,rfl,_⟩:=DataW.trod_string hu h;simp at hd;subst hd;exact zgq (zyq s)
     | array n e =>
       obtain⟨xs,k,rfl,rfl,hl,hxl,hg⟩:=DataW.trod_array hu h;simp only at hd;split at hd
       · rename_i hn
         refine yb8 (sz:=P.cellsOf e) (xs.map (·.1)) cs a hd (by rw[hl,hn]) fun i d b e1 e2=>?_
         rw[List.getElem?_map] at e1;cases hx:xs[i]? with
         | none=>rw[hx] at e1;cases e1
         | some y =>
           rw[hx] at e1;cases e1;have hi:i<n:=by rw[← hxl];exact(List.getElem?_eq_some_iff.1 hx).1
           exact zsr m k e _ y b ((hg i hi).trans hx) e2
       · cases hd
     | struct fs =>
       obtain⟨xs,k,rfl,rfl,hl,hxl,hg⟩:=DataW.trod_struct hu h;simp only at hd;split at hd
       · rename_i ho
         have:=yb7 (P:=P) (c:=c) (w:=w) (cs:=cs) fs.toList (xs.map (·.1)) 0 a (by rw[hl];exact ho) hd fun i g d b e0 e1 e2=>by
          rw[List.getElem?_map] at e1;cases hx:xs[i]? with
          | none=>rw[hx] at e1;cases e1
          | some y =>
            rw[hx] at e1;cases e1;exact zsr m k g.type _ y b ((hg i g (by simpa using e0)).trans hx) e2
         simpa using this
       · cases hd
     | _=>cases hd
theorem ypy {n:Nat}{t:TypeId}{v:List AV}(h:shp P n t v)(u:P.underlying t=some .bool):∃b,v=[.bool b]:=by
 cases n with
 | zero=>exact h.elim
 | succ n=>unfold shp at h;rw[u] at h;exact h
theorem ypx {n:Nat}{t:TypeId}{v:List AV}{k:IntKind}(h:shp P n t v)(u:P.underlying t=some (.int k)):∃m,v=[.int k m]:=by
 cases n with
 | zero=>exact h.elim
 | succ n=>unfold shp at h;rw[u] at h;exact h
theorem ypw {n:Nat}{t:TypeId}{v:List AV}(h:shp P n t v)(u:P.underlying t=some .string):∃l:List UInt8,v=[.str l]∧l.length≤reachBytes:=by
 cases n with
 | zero=>exact h.elim
 | succ n=>unfold shp at h;rw[u] at h;exact h
theorem ym3 {n:Nat}{t e:TypeId}{v:List AV}(h:shp P n t v)(u:P.underlying t=some (.slice e))(hb:Nat.blt 0 (P.bytesOf e)=true)(hc:Nat.blt 0 (P.cellsOf e)=true) :
 ∃m es,n=m+1∧v=[.rsl (P.cellsOf e) es]∧es.length≤reachBytes∧∀x∈es,shp P m e x:=by
 cases n with
 | zero=>exact h.elim
 | succ n =>
   unfold shp at h;rw[u] at h;obtain⟨es,h1,h2,h3⟩:=h (Nat.le_of_ble_eq_true hb) (Nat.le_of_ble_eq_true hc);exact⟨n,es,rfl,h1,h2,h3⟩
theorem zio {n:Nat}{t:TypeId}{v:List AV}{fs:Array Field}(h:shp P n t v)(u:P.underlying t=some (.struct fs))(hf:fsOK P fs.toList 0 (P.cellsOf t)=true) :
 ∃m,n=m+1∧shFl (shp P m) (fs.toList.map (·.type)) v:=by
 cases n with
 | zero=>exact h.elim
 | succ n=>unfold shp at h;rw[u] at h;exact⟨n,rfl,h hf⟩
end
theorem zy9 {α:Type}{g:α→List AV}:∀(es:List (List AV)),(∀x∈es,∃a,x=g a)→∃l:List α,es=l.map g
 | [],_=>⟨[],rfl⟩
 | x :: es, h => by
   obtain⟨a,ha⟩:=h x (by simp)
   obtain⟨l,hl⟩:=zy9 es fun y hy=>h y (by simp[hy])
   exact⟨a::l,by rw[ha,hl];rfl⟩
end Go.Ago
end
section
namespace Go.Ago
open Go.ChangeShapes
section
variable {H:Type} {enc:TypeId×Value→H} {P:Program} {w w':World} {base:Nat} {spare:Nat→Bool} {held:Bool}
theorem zow {n:String}{g:Nat}{t:TypeId}{cs:Array Value}{fuel m:Nat}{d:DataW H}{p:List MemPlace}{a:List AV}(hg:P.globalNamed n=some g)(hv:w.var? P n=some cs)
 (hd:DataW.trod enc P w 0 spare held fuel t cs.toList=some (d,p))(ha:dav P m t d=some a):Rel (allC w) w (.rptr a) (.pointer (some ⟨g,0,none⟩)):=by
 have hr:RelL (allC w) w a cs.toList:=zsr m fuel t cs.toList (d,p) a hd ha;have hlt:g<w.heap.size:=by
  simp only[World.var?,hg,Option.bind_some] at hv;split at hv
  · rename_i h
    exact(Array.getElem?_eq_some_iff.1 h).1
  · cases hv
 refine .rptr hlt hr.1 (fun i v e=>?_) fun i x v e e'=>hr.2 i x v e e'
 have h1:=World.var?_cell hg hv i;rw[show(⟨g,0,none⟩:Addr).add i=⟨g,i,none⟩ by rw[zcm,Nat.zero_add],h1]
 simpa using e
theorem yin {r:_root_.Go.Reach}{b:Nat}{t e:TypeId}{v:Value}(u:P.underlying t=some (.slice e))(h:Value.okWide P w r b t v):∀cs,v≠.agg cs:=by
 rintro cs rfl
 simp[Value.okWide,u,Cell.okWide,Cell.ok] at h
theorem ye1 {v:Value}(h:∀cs,v≠.agg cs):v.cells.toList=[v]:=by
 cases v<;>first|rfl|exact absurd rfl (h _)
theorem ypf {c:Ctx}{cs:List AV}{v:Value}{n:Nat}(h:RelL c w cs v.cells.toList)(hv:∃l,v = .agg l):Rel c w (.agg cs) v:=by
 obtain⟨l,rfl⟩:=hv;have:=Rel.agg (c:=c) (w:=w) (cs:=cs) (vs:=l.toList) h.1 h.2
 simpa using this
theorem zrw:∀{ts:List TypeId} {vs:List Value} {ds:List (DataW H)} {ps:List MemPlace},DataW.TrodAll enc P w base spare held ts vs ds ps→(∀p∈ps,w.sameAt w' p)→DataW.TrodAll enc P w' base spare held ts vs ds ps
 | [],[],[],_,h,_=>h
 | _::_,_::_,_::_,_,⟨p,q,⟨n,h1⟩,h2,e⟩,hs=>⟨p,q,⟨n,DataW.trod_carry n _ _ _ h1 fun x hx=>hs x (by rw[e];exact List.mem_append_left _ hx)⟩,zrw h2 (fun x hx=>hs x (by rw[e];exact List.mem_append_right _ hx)),e⟩
 | [],[],_::_,_,h,_=>h.elim
 | [],_::_,_,_,h,_=>h.elim
 | _::_,[],_,_,h,_=>h.elim
 | _::_,_::_,[],_,h,_=>h.elim
theorem yh5 {p:MemPlace}(hb:∀b,b<w.heap.size→w'.heap[b]? = w.heap[b]?)(hp:p.block<w.heap.size):w.sameAt w' p:=by
 cases p with
 | cell b o=>exact zf6 (hb b hp)
 | map b=>exact hb b hp
theorem yem {may:MemPlace→Prop}(ho:w'.os=w.os)(hu:w'.output=w.output)(hb:∀b,b<w.heap.size→w'.heap[b]? = w.heap[b]?):w.keptBut w' may:=by
 refine⟨ho,hu,fun i hi=>?_⟩
 rw[hb i hi];split
 · rename_i h1 h2
   rw[h1] at h2;simp only[Option.some.injEq,Obj.cells.injEq] at h2;obtain⟨rfl,rfl,rfl⟩:=h2;exact⟨rfl,rfl,rfl,fun _ _=>rfl⟩
 · rename_i h1 h2
   rw[h1] at h2;simp only[Option.some.injEq,Obj.map.injEq] at h2;exact .inr ⟨h2.1.symm,h2.2.symm⟩
 · rfl
theorem zzp {f:Func}{s:ChangeSpec}{apart fresh handsOn:Bool}{args:Array Value}{ds gs:List (DataW H)}{before:List MemPlace}{T:TypeId→Prop}
 (K:Kids P T)(hz:∀t e,T t→P.underlying t=some (.slice e)→0<P.cellsOf e)(hT:∀t∈f.params.toList,T t)(hv:s.vars=[])
 (hW:DataW.Whole enc P f.params.toList s.vars apart w args.toList ds gs before)(hs:s.fn H (ds++gs)={ results:=[.lit (.bool true)],args:=ds }){tb:TypeId}(hr:f.resultTypes=#[tb])(hb:P.underlying tb=some .bool)
 (ho:w'.os=w.os)(hu:w'.output=w.output)(hh:∀b,b<w.heap.size→w'.heap[b]? = w.heap[b]?) :
 s.post enc P f apart fresh handsOn false w args (.bool true) w':=by
 have hlt:=hW.lt;have hW0:=hW;obtain⟨p,q,hA,hV,rfl,hfz,hnd⟩:=hW;rw[hv] at hV;obtain⟨rfl,rfl⟩:=trodVars_none hV;refine⟨ds,[],p++[],[],p,[],hW0,?_,?_,?_,yem ho hu hh,fun h=>by cases h⟩
 · rw [hs, hr]
   exact trodAll_mk1 (Go.RowKit.shut_bool hb _)
 · rw [hs]
   exact zrw (hA.respare K hz hT fun x hx=>by simpa using hlt x (by simpa using hx)) fun x hx=>yh5 hh (hlt x (by simpa using hx))
 · rw [hs, hv]
   exact rfl
end
end Go.Ago
end
namespace Go.Ago
open Go.Proofs
abbrev shT (n:Nat)(t:TypeId)(v:List AV):Prop:=shp Tryz.prog n t v
theorem yct {n:Nat}(h:n≤reachBytes):n<281474976710656:=by unfold reachBytes at h;omega
theorem ziq {α:Type}{g:α→List AV}{n sz:Nat}{t e:TypeId}{v:List AV}(h:shT n t v)(u:Tryz.prog.underlying t=some (.slice e))(hb:Nat.blt 0 (Tryz.prog.bytesOf e)=true)(hc:Nat.blt 0 (Tryz.prog.cellsOf e)=true)
 (hz:Tryz.prog.cellsOf e=sz)(hi:∀m x,shT m e x→∃a,x=g a):∃l:BL α,v=[.rsl sz (l.l.map g)]:=by
 obtain⟨m,es,rfl,rfl,hl,hx⟩:=ym3 h u hb hc;obtain⟨l,rfl⟩:=zy9 (g:=g) es fun x hm=>hi m x (hx x hm)
 exact⟨⟨l,by simpa using yct hl⟩,by rw[hz]⟩
theorem zlu {p:List AV→Prop}{n sz:Nat}{t e:TypeId}{v:List AV}(h:shT n t v)(u:Tryz.prog.underlying t=some (.slice e))(hb:Nat.blt 0 (Tryz.prog.bytesOf e)=true)(hc:Nat.blt 0 (Tryz.prog.cellsOf e)=true)
 (hz:Tryz.prog.cellsOf e=sz)(hi:∀m,m<n→∀x,shT m e x→p x):∃l:BL (List AV),v=[.rsl sz l.l]∧∀x∈l.l,p x:=by
 obtain⟨m,es,rfl,rfl,hl,hx⟩:=ym3 h u hb hc;exact⟨⟨es,yct hl⟩,by rw[hz],fun x hm=>hi m (by omega) x (hx x hm)⟩
theorem in3 {n:Nat}{v:List AV}(h:shT n 3 v):∃m,v=[i64 m]:=ypx h Tryz.underlying3
theorem in4 {n:Nat}{v:List AV}(h:shT n 4 v):∃b,v=[.bool b]:=ypy h Tryz.underlying4
theorem in9 {n:Nat}{v:List AV}(h:shT n 9 v):∃s:BL UInt8,v=[.str s.l]:=by
 obtain⟨l,rfl,hl⟩:=ypw h Tryz.underlying9;exact⟨⟨l,yct hl⟩,rfl⟩
theorem in26 {n:Nat}{v:List AV}(h:shT n 26 v):∃l:BL (Int),v=[.rsl 1 (l.l.map (fun n=>[i64 n]))]:=ziq h Tryz.underlying26 (by kernel_rfl) (by kernel_rfl) (by kernel_rfl) fun _ _ h=>in3 h
theorem in25 {n:Nat}{v:List AV}(h:shT n 25 v):∃l:BL (BL UInt8),v=[.rsl 1 (l.l.map (fun s:BL UInt8=>[.str s.l]))]:=ziq h Tryz.underlying25 (by kernel_rfl) (by kernel_rfl) (by kernel_rfl) fun _ _ h=>in9 h
theorem in56 {n:Nat}{v:List AV}(h:shT n 56 v):∃x:Ty,v=x.cells:=by
 obtain⟨m,rfl,hF⟩:=zio h Tryz.underlying56 (by kernel_rfl)
 obtain⟨a0,_,rfl,h0,a1,_,rfl,h1,a2,_,rfl,h2,a3,_,rfl,h3,a4,_,rfl,h4,rfl⟩:=hF;obtain⟨x0,rfl⟩:=in3 h0;obtain⟨x1,rfl⟩:=in3 h1;obtain⟨x2,rfl⟩:=in3 h2;obtain⟨x3,rfl⟩:=in4 h3;obtain⟨x4,rfl⟩:=in9 h4;exact⟨⟨x0,x1,x2,x3,x4.l,x4.h⟩,rfl⟩
theorem in58 {n:Nat}{v:List AV}(h:shT n 58 v):∃x:Vl,v=x.cells:=by
 obtain⟨m,rfl,hF⟩:=zio h Tryz.underlying58 (by kernel_rfl)
 obtain⟨a0,_,rfl,h0,a1,_,rfl,h1,rfl⟩:=hF;obtain⟨x0,rfl⟩:=in3 h0;obtain⟨x1,rfl⟩:=in9 h1;exact⟨⟨x0,x1.l,x1.h⟩,rfl⟩
theorem in60 {n:Nat}{v:List AV}(h:shT n 60 v):∃l:BL (Ty),v=[.rsl 5 (l.l.map Ty.cells)]:=ziq h Tryz.underlying60 (by kernel_rfl) (by kernel_rfl) (by kernel_rfl) fun _ _ h=>in56 h
theorem yqd {n:Nat}{v:List AV}(h:shT n 209 v):∃x:Fm,v=x.cells:=by
 obtain⟨m,rfl,hF⟩:=zio h Tryz.underlying209 (by kernel_rfl)
 obtain⟨a0,_,rfl,h0,a1,_,rfl,h1,a2,_,rfl,h2,a3,_,rfl,h3,rfl⟩:=hF;obtain⟨x0,rfl⟩:=in3 h0;obtain⟨x1,rfl⟩:=in3 h1;obtain⟨x2,rfl⟩:=in3 h2;obtain⟨x3,rfl⟩:=in9 h3;exact⟨⟨x0,x1,x2,x3⟩,rfl⟩
theorem in59 {n:Nat}{v:List AV}(h:shT n 59 v):∃l:BL (Fm),v=[.rsl 4 (l.l.map Fm.cells)]:=ziq h Tryz.underlying59 (by kernel_rfl) (by kernel_rfl) (by kernel_rfl) fun _ _ h=>yqd h
theorem yqg {n:Nat}{v:List AV}(h:shT n 122 v):∃x:Fl,v=x.cells:=by
 obtain⟨m,rfl,hF⟩:=zio h Tryz.underlying122 (by kernel_rfl)
 obtain⟨a0,_,rfl,h0,a1,_,rfl,h1,rfl⟩:=hF;obtain⟨x0,rfl⟩:=in9 h0;obtain⟨x1,rfl⟩:=in3 h1;exact⟨⟨x0,x1⟩,rfl⟩
theorem in24 {n:Nat}{v:List AV}(h:shT n 24 v):∃l:BL (Fl),v=[.rsl 2 (l.l.map Fl.cells)]:=ziq h Tryz.underlying24 (by kernel_rfl) (by kernel_rfl) (by kernel_rfl) fun _ _ h=>yqg h
theorem yqe {n:Nat}{v:List AV}(h:shT n 203 v):∃x:Ini,v=x.cells:=by
 obtain⟨m,rfl,hF⟩:=zio h Tryz.underlying203 (by kernel_rfl)
 obtain⟨a0,_,rfl,h0,a1,_,rfl,h1,a2,_,rfl,h2,rfl⟩:=hF;obtain⟨x0,rfl⟩:=in3 h0;obtain⟨x1,rfl⟩:=in56 h1;obtain⟨x2,rfl⟩:=in58 h2;exact⟨⟨x0,x1,x2⟩,rfl⟩
theorem in23 {n:Nat}{v:List AV}(h:shT n 23 v):∃l:BL (Ini),v=[.rsl 8 (l.l.map Ini.cells)]:=ziq h Tryz.underlying23 (by kernel_rfl) (by kernel_rfl) (by kernel_rfl) fun _ _ h=>yqe h
theorem in62 {n:Nat}{v:List AV}(h:shT n 62 v):∃x:Ins,v=x.cells:=by
 obtain⟨m,rfl,hF⟩:=zio h Tryz.underlying62 (by kernel_rfl)
 obtain⟨a0,_,rfl,h0,a1,_,rfl,h1,a2,_,rfl,h2,a3,_,rfl,h3,a4,_,rfl,h4,a5,_,rfl,h5,a6,_,rfl,h6,a7,_,rfl,h7,a8,_,rfl,h8,a9,_,rfl,h9,a10,_,rfl,h10,a11,_,rfl,h11,a12,_,rfl,h12,a13,_,rfl,h13,a14,_,rfl,h14,a15,_,rfl,h15,rfl⟩:=hF;obtain⟨x0,rfl⟩:=in3 h0;obtain⟨x1,rfl⟩:=in3 h1;obtain⟨x2,rfl⟩:=in3 h2;obtain⟨x3,rfl⟩:=in3 h3;obtain⟨x4,rfl⟩:=in56 h4;obtain⟨x5,rfl⟩:=in56 h5;obtain⟨x6,rfl⟩:=in56 h6;obtain⟨x7,rfl⟩:=in3 h7;obtain⟨x8,rfl⟩:=in3 h8;obtain⟨x9,rfl⟩:=in3 h9;obtain⟨x10,rfl⟩:=in58 h10;obtain⟨x11,rfl⟩:=in59 h11;obtain⟨x12,rfl⟩:=in26 h12;obtain⟨x13,rfl⟩:=in60 h13;obtain⟨x14,rfl⟩:=in4 h14;obtain⟨x15,rfl⟩:=in4 h15;exact⟨⟨x0,x1,x2,x3,x4,x5,x6,x7,x8,x9,x10,x11,x12,x13,x14,x15⟩,rfl⟩
theorem in42 {n:Nat}{v:List AV}(h:shT n 42 v):∃l:BL (Ins),v=[.rsl 29 (l.l.map Ins.cells)]:=ziq h Tryz.underlying42 (by kernel_rfl) (by kernel_rfl) (by kernel_rfl) fun _ _ h=>in62 h
theorem in44 {n:Nat}{v:List AV}(h:shT n 44 v):∃x:Bd,v=x.cells:=by
 obtain⟨m,rfl,hF⟩:=zio h Tryz.underlying44 (by kernel_rfl)
 obtain⟨a0,_,rfl,h0,a1,_,rfl,h1,rfl⟩:=hF;obtain⟨x0,rfl⟩:=in3 h0;obtain⟨x1,rfl⟩:=in42 h1;exact⟨⟨x0,x1⟩,rfl⟩
theorem in29 {n:Nat}{v:List AV}(h:shT n 29 v):∃l:BL (Bd),v=[.rsl 2 (l.l.map Bd.cells)]:=ziq h Tryz.underlying29 (by kernel_rfl) (by kernel_rfl) (by kernel_rfl) fun _ _ h=>in44 h
theorem RfP.up {E F:List AV→Prop}(h:∀x,E x→F x){v:List AV}(hv:RfP E v):RfP F v:=by
 obtain⟨b,u,n,o,p,s,t,rfl,h1,h2⟩:=hv;refine⟨b,u,n,o,p,s,t,rfl,fun x hx=>h x (h1 x hx),fun x hx=>?_⟩
 obtain⟨e,lo,hi,st,rfl,he⟩:=h2 x hx;exact⟨e,lo,hi,st,rfl,h e he⟩
theorem zt4:∀(d:Nat) (v:List AV),ExD d v→ExD (d+1) v
 | 0,_,h=>h.elim
 | d+1,v,⟨op,t,w,n,l,r,e,h1,h2⟩=>⟨op,t,w,n,l,r,e,fun x hx=>zt4 d x (h1 x hx),fun x hx=>(h2 x hx).up fun y hy=>zt4 d y hy⟩
theorem ExD.up {d e:Nat}(h:d≤e){v:List AV}(hv:ExD d v):ExD e v:=by
 induction h with
 | refl=>exact hv
 | step _ ih=>exact zt4 _ _ ih
theorem yqc {d n:Nat}(ih:∀m,m<n→∀v,shT m 230 v→ExD d v){v:List AV}(h:shT n 275 v):SbP (ExD d) v:=by
 obtain⟨m,rfl,hF⟩:=zio h Tryz.underlying275 (by kernel_rfl)
 obtain⟨a0,_,rfl,h0,a1,_,rfl,h1,a2,_,rfl,h2,a3,_,rfl,h3,rfl⟩:=hF;obtain⟨x1,rfl⟩:=in3 h1;obtain⟨x2,rfl⟩:=in3 h2;obtain⟨x3,rfl⟩:=in3 h3;exact⟨a0,x1,x2,x3,rfl,ih m (by omega) _ h0⟩
theorem yoe {d n:Nat}(ih:∀m,m<n→∀v,shT m 230 v→ExD d v){v:List AV}(h:shT n 227 v):RfP (ExD d) v:=by
 obtain⟨m,rfl,hF⟩:=zio h Tryz.underlying227 (by kernel_rfl)
 obtain⟨a0,_,rfl,h0,a1,_,rfl,h1,a2,_,rfl,h2,a3,_,rfl,h3,a4,_,rfl,h4,a5,_,rfl,h5,a6,_,rfl,h6,rfl⟩:=hF;obtain⟨x0,rfl⟩:=in3 h0;obtain⟨x1,rfl⟩:=in3 h1;obtain⟨x2,rfl⟩:=in3 h2;obtain⟨x3,rfl⟩:=in3 h3;obtain⟨p,rfl,hp⟩:=zlu (sz:=11) (p:=ExD d) h4 Tryz.underlying179 (by kernel_rfl) (by kernel_rfl) (by kernel_rfl) fun k hk x hx=>ih k (by omega) x hx
 obtain⟨s,rfl,hs⟩:=zlu (sz:=14) (p:=SbP (ExD d)) h5 Tryz.underlying225 (by kernel_rfl) (by kernel_rfl) (by kernel_rfl) fun k hk x hx=>yqc (fun j hj=>ih j (by omega)) hx
 obtain⟨t,rfl⟩:=in56 h6;exact⟨x0,x1,x2,x3,p,s,t,rfl,hp,hs⟩
theorem yod:∀(n:Nat) (v:List AV),shT n 230 v→ExD n v:=by
 intro n
 induction n using Nat.strongRecOn with
 | ind n ih =>
   intro v h;obtain⟨m,rfl,hF⟩:=zio h Tryz.underlying230 (by kernel_rfl)
   obtain⟨a0,_,rfl,h0,a1,_,rfl,h1,a2,_,rfl,h2,a3,_,rfl,h3,a4,_,rfl,h4,a5,_,rfl,h5,rfl⟩:=hF;obtain⟨x0,rfl⟩:=in3 h0;obtain⟨t,rfl⟩:=in56 h1;obtain⟨w,rfl⟩:=in58 h2;obtain⟨x3,rfl⟩:=in3 h3;obtain⟨l,rfl,hl⟩:=zlu (sz:=11) (p:=ExD m) h4 Tryz.underlying179 (by kernel_rfl) (by kernel_rfl) (by kernel_rfl) fun k hk x hx=>(ih k (by omega) x hx).up (by omega)
   obtain⟨r,rfl,hr⟩:=zlu (sz:=11) (p:=RfP (ExD m)) h5 Tryz.underlying178 (by kernel_rfl) (by kernel_rfl) (by kernel_rfl) fun k hk x hx=>yoe (fun j hj y hy=>(ih j (by omega) y hy).up (by omega)) hx
   exact⟨x0,t,w,x3,l,r,rfl,hl,hr⟩
theorem yqf {n:Nat}{v:List AV}(h:shT n 181 v):StD n v:=by
 obtain⟨m,rfl,hF⟩:=zio h Tryz.underlying181 (by kernel_rfl)
 obtain⟨a0,_,rfl,h0,a1,_,rfl,h1,a2,_,rfl,h2,a3,_,rfl,h3,a4,_,rfl,h4,a5,_,rfl,h5,a6,_,rfl,h6,a7,_,rfl,h7,a8,_,rfl,h8,a9,_,rfl,h9,a10,_,rfl,h10,rfl⟩:=hF;obtain⟨x0,rfl⟩:=in3 h0;obtain⟨x1,rfl⟩:=in3 h1;obtain⟨r,rfl,hr⟩:=zlu (sz:=11) (p:=RfP (ExD (m+1))) h2 Tryz.underlying178 (by kernel_rfl) (by kernel_rfl) (by kernel_rfl) fun k hk x hx=>yoe (fun j hj y hy=>(yod j y hy).up (by omega)) hx
 obtain⟨e,rfl,he⟩:=zlu (sz:=11) (p:=ExD (m+1)) h3 Tryz.underlying179 (by kernel_rfl) (by kernel_rfl) (by kernel_rfl) fun k hk x hx=>(yod k x hx).up (by omega)
 obtain⟨x4,rfl⟩:=in3 h4;obtain⟨x5,rfl⟩:=in3 h5;obtain⟨x6,rfl⟩:=in3 h6;obtain⟨f,rfl⟩:=in59 h7;obtain⟨x8,rfl⟩:=in3 h8;obtain⟨x9,rfl⟩:=in4 h9;obtain⟨x10,rfl⟩:=in4 h10;exact⟨x0,x1,r,e,x4,x5,x6,f,x8,x9,x10,rfl,hr,he⟩
theorem StD.up {d e:Nat}(h:d≤e){v:List AV}(hv:StD d v):StD e v:=by
 obtain⟨x0,x1,r,l,x4,x5,x6,f,x8,x9,x10,rfl,h1,h2⟩:=hv;exact⟨x0,x1,r,l,x4,x5,x6,f,x8,x9,x10,rfl,fun x hx=>(h1 x hx).up fun _ hy=>hy.up h,fun x hx=>(h2 x hx).up h⟩
theorem yqh {n:Nat}{v:List AV}(h:shT n 120 v):∃x:Prc,v=x.cells:=by
 obtain⟨m,rfl,hF⟩:=zio h Tryz.underlying120 (by kernel_rfl)
 obtain⟨a0,_,rfl,h0,a1,_,rfl,h1,a2,_,rfl,h2,a3,_,rfl,h3,a4,_,rfl,h4,a5,_,rfl,h5,a6,_,rfl,h6,rfl⟩:=hF;obtain⟨x0,rfl⟩:=in9 h0;obtain⟨x1,rfl⟩:=in3 h1;obtain⟨x2,rfl⟩:=in3 h2;obtain⟨x3,rfl⟩:=in3 h3;obtain⟨x4,rfl⟩:=in23 h4;obtain⟨x5,rfl,hb⟩:=zlu (sz:=11) (p:=StD m) h5 Tryz.underlying118 (by kernel_rfl) (by kernel_rfl) (by kernel_rfl) fun k hk x hx=>(yqf hx).up (by omega)
 obtain⟨x6,rfl⟩:=in60 h6;exact⟨⟨x0,x1,x2,x3,x4,x5,x6,m,hb⟩,rfl⟩
theorem in22 {n:Nat}{v:List AV}(h:shT n 22 v):∃l:BL (Prc),v=[.rsl 7 (l.l.map Prc.cells)]:=ziq h Tryz.underlying22 (by kernel_rfl) (by kernel_rfl) (by kernel_rfl) fun _ _ h=>yqh h
theorem in28 {n:Nat}{v:List AV}(h:shT n 28 v):∃x:Prg,v=x.cells:=by
 obtain⟨m,rfl,hF⟩:=zio h Tryz.underlying28 (by kernel_rfl)
 obtain⟨a0,_,rfl,h0,a1,_,rfl,h1,a2,_,rfl,h2,a3,_,rfl,h3,a4,_,rfl,h4,a5,_,rfl,h5,rfl⟩:=hF;obtain⟨x0,rfl⟩:=in22 h0;obtain⟨x1,rfl⟩:=in3 h1;obtain⟨x2,rfl⟩:=in23 h2;obtain⟨x3,rfl⟩:=in24 h3;obtain⟨x4,rfl⟩:=in25 h4;obtain⟨x5,rfl⟩:=in26 h5;exact⟨⟨x0,x1,x2,x3,x4,x5⟩,rfl⟩
theorem in31 {n:Nat}{v:List AV}(h:shT n 31 v):∃x:Cd,v=x.cells:=by
 obtain⟨m,rfl,hF⟩:=zio h Tryz.underlying31 (by kernel_rfl)
 obtain⟨a0,_,rfl,h0,a1,_,rfl,h1,rfl⟩:=hF;obtain⟨x0,rfl⟩:=in28 h0;obtain⟨x1,rfl⟩:=in29 h1;exact⟨⟨x0,x1⟩,rfl⟩
end Go.Ago
namespace Go.Proofs.YthaolifcglpkdaaGreatDoor
open Go Go.Ago Go.ChangeShapes Go.WideShapes Go.ChangeAt Go.RowKit
theorem zoz (c:Cd)(p:Int)(tw:BL Int):DPR 3 [c.av,i64 p,zaq tw.l] (fun ae=>ae = .ret (.bool true)):=zss c p tw yh4
abbrev yah:List (String×DataW Unit):=Rows.regsStraightRow.laid
theorem own:ownKnob Tryz.prog.godebug=none:=by kernel_rfl
theorem kids:Kids Tryz.prog (·<Tryz.prog.types.size):=kids_rows (by kernel_rfl) (by kernel_rfl)
theorem full:∀t e,t<Tryz.prog.types.size→Tryz.prog.underlying t=some (.slice e)→0<Tryz.prog.cellsOf e:=slices_full_of _ (by kernel_rfl)
theorem yqi {W:World}(h:laidMetH Tryz.prog yah W):WRel ERg.glob (allC W) W .nil:=by
 rw[MakeChecks.laidMetH_plain _ _ _ (by kernel_rfl)] at h
 obtain⟨ps,⟨_,_,_,_,_,_,_,_,_,_,⟨_,_,_,_,_,_,_,_,_,_,⟨_,_,_,_,_,_,_,_,_,_,⟨_,_,_,_,_,_,_,_,_,_,⟨_,_,_,_,_,_,_,_,_,_,⟨_,_,_,_,_,_,_,_,_,_,
  ⟨g6,t6,c6,f6,p6,q6,hg6,ht6,hv6,hd6,⟨g7,t7,c7,f7,p7,q7,hg7,ht7,hv7,hd7,⟨g8,t8,c8,f8,p8,q8,hg8,ht8,hv8,hd8,_,_⟩,_⟩,_⟩,_⟩,_⟩,_⟩,_⟩,_⟩,_⟩,_,_⟩:=h
 obtain rfl:=Option.some.inj ((show Tryz.prog.globalNamed "pliant/picture.punched" = some 3 by kernel_rfl).symm.trans hg6)
 obtain rfl:=Option.some.inj ((show(Tryz.prog.globals[3]?).map (·.type)=some 349 by kernel_rfl).symm.trans ht6)
 obtain rfl:=Option.some.inj ((show Tryz.prog.globalNamed "pliant/core.operands" = some 0 by kernel_rfl).symm.trans hg7)
 obtain rfl:=Option.some.inj ((show(Tryz.prog.globals[0]?).map (·.type)=some 246 by kernel_rfl).symm.trans ht7)
 obtain rfl:=Option.some.inj ((show Tryz.prog.globalNamed "pliant/core.shapes" = some 1 by kernel_rfl).symm.trans hg8)
 obtain rfl:=Option.some.inj ((show(Tryz.prog.globals[1]?).map (·.type)=some 270 by kernel_rfl).symm.trans ht8)
 have r0:=zow (m:=8) (a:=zix) hg7 hv7 hd7 (by kernel_rfl)
 have r1:=zow (m:=8) (a:=zsy) hg8 hv8 hd8 (by kernel_rfl)
 have r3:=zow (m:=8) (a:=zit) hg6 hv6 hd6 (by kernel_rfl)
 refine⟨fun _ h=>h,fun _ _ h=>(by cases h),fun _ _ h=>(by cases h),fun _ _ _ _ _ _ h=>(by cases h),fun g cs hg=>?_⟩
 change (bif Nat.beq g 0 then some zix else bif Nat.beq g 1 then some zsy else bif Nat.beq g 3 then some zit else none)=some cs at hg
 cases e0:Nat.beq g 0 with
 | true=>rw[e0] at hg;rw[Nat.eq_of_beq_eq_true e0];cases hg;exact r0
 | false =>
   cases e1:Nat.beq g 1 with
   | true=>rw[e0,e1] at hg;rw[Nat.eq_of_beq_eq_true e1];cases hg;exact r1
   | false =>
     cases e3:Nat.beq g 3 with
     | true=>rw[e0,e1,e3] at hg;rw[Nat.eq_of_beq_eq_true e3];cases hg;exact r3
     | false=>rw[e0,e1,e3] at hg;cases hg
set_option maxRecDepth 100000 in
theorem lifted (os:Os)(started:os.Started)(H:Type)(enc:TypeId×Value→H) :
 ReturnsInHanded {} Tryz.checked os 3 .any (fun w args=>(Rows.regsStraightSpec.pre enc Tryz.prog Tryz.f3 [] false w args∧laidMetH Tryz.prog yah w)∧sizedMet enc Tryz.prog Tryz.f3 (OpenSpec.ofChange Rows.regsStraightSpec) false w args)
  (Rows.regsStraightSpec.post enc Tryz.prog Tryz.f3 false true false false):=by
 refine returnsInHanded_of_change_and (C:=Tryz.checked) (X:=fun w _=>laidMetH Tryz.prog yah w) (fun _ _ _ hh h=>h.of_heap hh) own started (by kernel_rfl) Tryz.func3
  (ChangeSpec.witness_shaped (enc:=enc) (C:=Tryz.checked) (os:=os) (X:=fun w _=>laidMetH Tryz.prog yah w) false (World.laidAll Tryz.prog os yah)
    #[.agg #[.slice none 0 0,.int .i64 0,.slice none 0 0,.slice none 0 0,.slice none 0 0,.slice none 0 0,.slice none 0 0],.int .i64 0,.slice none 0 0] 8 (World.laidAll_os _ _ _)
    (World.shaped_of_ZipB (by kernel_rfl) (by kernel_rfl)) (by kernel_rfl) (by kernel_rfl) (by kernel_rfl)
    (by rw[MakeChecks.laidMetH_plain _ _ _ (by kernel_rfl)];exact laidMet_laidAll _ (by kernel_rfl) (by kernel_rfl))) ?_
 intro W base args ds gs before hval0 hW hc hsz hL _;have hval:∀(j:Nat) t v,Tryz.f3.params[j]? = some t→args[j]? = some v→Value.okWide Tryz.prog W .any base t v:=hval0;have hW':=hW;obtain⟨p,q,hA0,hV,rfl,_,_⟩:=hW;have hA:DataW.TrodAll enc Tryz.prog W 0 (fun _=>true) true Tryz.f3.params.toList args.toList ds p:=hA0
 rw[Tryz.params3] at hA hval;obtain⟨rfl,rfl⟩:=trodVars_none hV;obtain⟨v1,v2,v3,d1,d2,d3,p1,p2,p3,rfl,rfl,rfl,h1,h2,h3⟩:=trodAll_three hA;have hw:∀n∈DataW.weightsEach Tryz.prog [31,3,26] [d1,d2,d3],n≤reachBytes:=by
  have e:(DataW.weightsEach Tryz.prog ([31,3,26]++[]) ([d1,d2,d3]++[])).all (·≤reachBytes)=true:=hsz;intro n hn
  simpa using List.all_eq_true.1 e n (by simpa using hn)
 obtain⟨x2,rfl,rfl,rfl,_⟩:=open_int Tryz.underlying3 (hval 1 3 v2 rfl rfl) h2;obtain⟨n1,h1⟩:=h1;obtain⟨n3,h3⟩:=h3;obtain⟨a1,r1,s1⟩:=zvt n1 31 _ _ h1 fun n hn=>hw n (ydg _ _ 0 31 d1 rfl rfl n hn)
 obtain⟨a3,r3,s3⟩:=zvt n3 26 _ _ h3 fun n hn=>hw n (ydg _ _ 2 26 d3 rfl rfl n hn)
 obtain⟨c,rfl⟩:=in31 s1;obtain⟨tw,rfl⟩:=in26 s3;have k1 : Rel (allC W) W c.av v1 := ypf (n := 0) r1 (by
  have:=hval 0 31 v1 rfl rfl;rw[Value.okWide,Tryz.underlying31] at this;obtain⟨cs,rfl,_⟩:=this;exact⟨cs,rfl⟩)
 have k3:Rel (allC W) W (zaq tw.l) v3:=by
  rw[ye1 (yin Tryz.underlying26 (hval 2 26 v3 rfl rfl))] at r3;exact r3.2 0 _ _ rfl rfl
 obtain⟨ae,⟨_,hp⟩,rfl⟩:=zoz c x2 tw;refine(hp (allC W) W [v1,.int .i64 x2,v3] (fun _=>rfl) (yqi hL) (.cons k1 (.cons (.int _ _) (.cons k3 .nil)))).mono fun e W' he=>?_
 obtain⟨c',_,hx,_,_,hE,rfl⟩:=he;cases e with
 | returned v =>
   obtain rfl:v = .bool true:=by cases hE;rfl
   have hin:∀b,b<W.heap.size→W'.heap[b]? = W.heap[b]?:=fun b hb=>hx.other b hb (by rintro⟨k,o,B,hk,_⟩;cases hk)
   exact⟨_,rfl,zzp kids full (by rw[Tryz.params3];decide) rfl hW' rfl (by kernel_rfl) Tryz.underlying4 hx.os hx.output hin⟩
 | _=>exact hE.elim
theorem zne:Rows.RegsStraightSaid:=
 OpenClaim.holds_of_wide 3 Tryz.f3 rfl rfl rfl rfl rfl rfl rfl ⟨rfl,rfl,rfl,rfl,rfl⟩ rfl rfl rfl rfl rfl cf5 Tryz.func3 jf cf6 cf7 (fun os started H enc _=>lifted os started H enc)
theorem straight_card:Rows.RegsStraightCardSaid:=
 Claim7.holds_tied_plain_at .later [] [.data,.data,.data,.data,.sentinel,.sentinel,.data,.data,.data,.pinned] true (true, "9c676c79cf6187268d0aaf8d03f648df5663a1a7e68dee59d27ac80132a59bd2") true
  zne (fun _ h=>by cases h) cf0 (fun _ h=>by cases h) regsStraight_row_tie rfl ⟨rfl,rfl⟩ cf1 rfl
  (fun f fn hf hfn=>by
    obtain rfl:f=3:=Option.some.inj (cf5.symm.trans hf) |>.symm
    obtain rfl:fn=Tryz.f3:=(Option.some.inj (Tryz.func3.symm.trans hfn)).symm;exact⟨cf2,fun j t ht=>by
     rw[Tryz.params3] at ht;have hm:t∈[31,3,26]:=by simpa using Array.mem_of_getElem? ht
     exact(show Tryz.prog.wantsStandIn t=false by simpa using List.all_eq_true.1 cf3 t hm)⟩)
  cf4
#print axioms straight_card
end Go.Proofs.YthaolifcglpkdaaGreatDoor
