/-
  Part B03: lemmas, each with its own conditions.
-/
import Derived.Laws.Tables
import Derived.Laws.Append
import Derived.Laws.Strings
import Derived.Great.FillDense
import Derived.Great.BuildSlice
import Derived.ChangeKeysEq
import Derived.Laws.StructEq
import Derived.Laws.BytesString
import Derived.Laws.Runes
import Derived.Lib.ConvBytes
import Derived.Laws.AppendOwn
import Derived.Test.YthaolifcglpkdaaGreatDoorB02
set_option maxRecDepth 100000
set_option maxHeartbeats 0
set_option linter.all false
section
namespace Go.Ago
open List Nat
section flat
theorem flat_get {es:List (List AV)}{sz:Nat}(c:∀(i:Nat) e,es[i]? = some e->e.length=sz):es.flatten.length=es.length * sz ∧
 ∀(i j:Nat) e,es[i]? = some e->j<sz->es.flatten[i * sz+j]? = e[j]?:=by
 induction es with
 | nil=>simp
 | cons a es d =>
   have l:=c 0 a rfl;obtain⟨k,g⟩:=d (fun i e h=>c (i+1) e bj)
   refine⟨by grind,fun i j e h m=>?_⟩
   cases i<;>grind
theorem By {es:List (List AV)}{sz p:Nat}(g:∀(i:Nat) e,es[i]? = some e->e.length=sz){x:AV}(h:es.flatten[p]? = some x) :
 ∃e,p=p / sz * sz+p % sz∧p % sz<sz∧es[p / sz]? = some e∧e[p % sz]? = some x:=by
 obtain⟨k,d⟩:=flat_get g;have f:p<es.length * sz:=by grind
 have a:0<sz:=by
  grind
 have c:p / sz<es.length:=(div_lt_iff_lt_mul a).2 f;have j:=mod_lt p a;have l:=d (p / sz) (p % sz) es[p / sz] (zbf c) j;have b:p / sz * sz+p % sz=p:=by rw[Nat.mul_comm];exact div_add_mod p sz
 grind
end flat
section
variable {P:Program} {E:Env} {G:eZ} {c:Ctx} {w:World} {H:aj} {nm:Nat}
theorem wX {pl:Nat->Option (Nat×Nat)}{pl':Nat->Option (Nat×Nat)}(z:∀i p,pl i=some p->pl' i=some p):∀(ps:List (Nat×AV)) (l:List (Nat×Value)) (a:List AV) (arr:Array Value) (cs:List AV),
 ps.length=l.length->(∀(i:Nat) p q,ps[i]? = some p->l[i]? = some q->p.1=q.1∧Rel c w p.2 q.2)->aP c w a arr.toList->l6 pl a ps=some cs->
 ∃d,Instr.fill pl' arr l=some d∧aP c w cs d.toList∧((∀x∈a,x.one=true)->∀x∈cs,x.one=true)
 | [], l, a, arr, cs, M, _, s, h => by
   obtain rfl:l=[]:=zbh bj;simp only[l6,zbg] at h;subst h;exact⟨arr,rfl,s,fun h=>h⟩
 | p::ps,[],_,_,_,M,_,_,_=>by grind
 | (i, y) :: ps, (R, u) :: l, a, arr, cs, M, D, s, h => by
   obtain⟨t,L⟩:=D 0 (i,y) (R,u) rfl rfl;dsimp only at t L;subst t;simp only[l6] at h;cases O:pl i with
   | none=>grind
   | some q =>
     obtain⟨b,f⟩:=q;rw[O] at h;dsimp only at h;cases K:((y.cells.length == f && y.cells.all AV.one) && ble (b+f) a.length) with
     | false=>grind
     | true =>
       rw[K] at h;dsimp only at h;simp only[zbe,zb1] at K;obtain⟨⟨r,A⟩,C⟩:=K;have C:=zbb C;have N:=L.cells (AO A);have T:u.cells.size=f:=by rw[<-r];simpa using N.1.symm
       have U:a.length=arr.size:=by simpa using s.1
       have I:=Go.Great.foldl_set b u.cells.toList 0 arr;have n:u.cells.zipIdx.foldl (fun cs (x:Value×Nat)=>cs.setIfInBounds (b+x.2) x.1) arr=(u.cells.toList.zipIdx 0).foldl (fun cs (x:Value×Nat)=>cs.setIfInBounds (b+x.2) x.1) arr:=by
        rw[<-Array.foldl_toList,Array.toList_zipIdx]
       have B:aP c w (lN a b y.cells) (u.cells.zipIdx.foldl (fun cs (x:Value×Nat)=>cs.setIfInBounds (b+x.2) x.1) arr).toList:=by
        rw[n];refine⟨by rw[Lu _ _ _ aa];grind,fun k x v e o=>?_⟩
        rw[zcJ,I.2 k] at o;rw[DS _ _ _ _ aa] at e;simp only[Nat.add_zero,Array.length_toList] at o
        by_cases J:k<b
        . rw [if_pos J] at e; rw [if_neg aa] at o
          exact s.2 k x v e bj
        . rw [if_neg J] at e
          by_cases F:k<b+y.cells.length
          . rw [if_pos F] at e; rw [if_pos aa] at o
            exact N.2 _ x v e o
          . rw [if_neg F] at e; rw [if_neg aa] at o
            exact s.2 k x v e bj
       obtain⟨d,J,F,S⟩:=wX z ps l _ _ cs bj (fun j p q e o=>D (j+1) p q bj bj) B h
       refine⟨d,?_,F,fun W=>S fun x Q=>?_⟩
       . rw [Instr.fill, z i _ O]
         grind
       . unfold lN at Q
         grind
theorem JI {P:Program}:∀(a:List Field) (j:List (Nat×Nat×TypeId)),a.length=j.length->
 (∀(i off sz:Nat) (t:TypeId),j[i]? = some (off,sz,t)->∃f b,a[i]? = some f∧f.offset=off∧f.type=t∧P.info? t=some b∧b.size=sz∧f.name ≠ "_")->
 a.mapM (fun f=>(P.info? f.type).map fun i=>(f.offset,i.size))=some (j.map fun q=>(q.1,q.2.1))
 | [],[],_,_=>rfl
 | [],_::_,h,_=>by grind
 | _::_,[],h,_=>by grind
 | f :: a, (off, sz, t) :: j, m, h => by
   obtain⟨u,b,k,n,o,p,r,_⟩:=h 0 off sz t rfl;simp at k;subst k;have s := JI a j bj (fun i off sz t e=>by
    obtain⟨g,b,v,l⟩:=h (i+1) off sz t bj;exact⟨g,b,by grind,l⟩)
   simp_all
theorem Pe (J:bZ P E)(R:aN G c w H){t:TypeId}{ps:List (Nat×AV)}{j:List (Nat×Value)}(K:ps.length=j.length)
 (l:∀(i:Nat) p q,ps[i]? = some p->j[i]? = some q->p.1=q.1∧Rel c w p.2 q.2){x:bo ⊕ AV}(h:(KS E t ps).run H=some x) :
 aX G c w H nm x ((Instr.build t j.toArray).run P w):=by
 obtain⟨k,A,h⟩:=cL h;obtain⟨L,d,z,N,O,a3,a4,a5,r,M,S,a9,W,V⟩:=(J.ti t k A).ok;cases a:k.desc with
 | struct v =>
   rw[a] at h r;dsimp only at h;cases g:l6 (Bq v) k.zero ps with
   | none=>rw[g] at h;exact(aF h).elim
   | some s =>
     rw[g] at h;obtain rfl:=bE h;obtain⟨f,rfl,X,U⟩:=r;have y := JI (P := P) f.toList v aa (fun i Y sz t e=>by
      grind)
     obtain ⟨b, B, m, _⟩ := wX (pl' := ((v.map fun q => (q.1, q.2.1)).toArray[·]?)) (c := c) (w := w) (fun i p Q=>by
      unfold Bq at Q
      grind) ps j k.zero z.cells s K l (S c w) g
     have D:P.built t j.toArray.toList=some b:=by
      unfold Program.built;simp only[N,O,M,y];exact B
     rw[run_build w t _ _ D];exact aX.quiet R (by have:=Rel.agg (c:=c) (w:=w) m.1 m.2;omega)
 | array n e =>
   rw[a] at h r;obtain rfl:d = .array n e:=r;obtain⟨F,I,h⟩:=cL h;obtain⟨T,de,ze,Z,b2,b3,_⟩:=(J.ti e F I).ok;cases g:l6 (fun i=>some (i * F.size,F.size)) k.zero ps with
   | none=>rw[g] at h;exact(aF h).elim
   | some s =>
     rw[g] at h;obtain rfl:=bE h;obtain⟨b,B,m,_⟩:=wX (pl':=fun i=>some (i * T.size,T.size)) (c:=c) (w:=w) (fun i p Q=>by grind) ps j k.zero z.cells s K l (S c w) g
     have D:P.built t j.toArray.toList=some b:=by
      unfold Program.built;simp only[N,O,M,Z];exact B
     rw[run_build w t _ _ D];exact aX.quiet R (by have:=Rel.agg (c:=c) (w:=w) m.1 m.2;omega)
 | _=>rw[a] at h;exact(aF h).elim
theorem GX {size:Nat}(m:0<size):∀(ps:List (Nat×AV)) (es es':List (List AV)),(∀(i:Nat) e,es[i]? = some e->e.length=size)->pW size es ps=some es'->
 l6 (fun i=>some (i * size,size)) es.flatten ps=some es'.flatten∧es'.length=es.length∧(∀(i:Nat) e,es'[i]? = some e->e.length=size)
 | [],es,es',n,h=>by simp only[pW,zbg] at h;subst h;exact⟨rfl,rfl,n⟩
 | (i, y) :: ps, es, es', n, h => by
   simp only[pW] at h;cases q:((y.cells.length == size && y.cells.all AV.one) && blt i es.length) with
   | false=>grind
   | true =>
     rw[q] at h;dsimp only at h;simp only[zbe,zb1] at q;obtain⟨⟨d,x⟩,s⟩:=q;have z:i<es.length:=by simpa using s
     have f:∀(j:Nat) e,(es.set i y.cells)[j]? = some e->e.length=size:=by
      intro j e J;rw[zc8] at J
      by_cases L:i=j
      . grind
      . grind
     obtain⟨M,N,A⟩:=GX m ps _ es' f h;refine⟨?_,by grind,A⟩
     obtain⟨I,K⟩:=flat_get n;obtain⟨O,t⟩:=flat_get f;have B:i * size+size≤es.flatten.length:=by
      rw[I];have:(i+1) * size≤es.length * size:=zbx _ z;rw[zcs] at this;omega
     have C:lN es.flatten (i * size) y.cells=(es.set i y.cells).flatten:=by
      apply ext_getElem?
      intro p;rw[DS _ _ _ _ aa,d]
      by_cases D:p<es.length * size
      . have F : p / size < es.length := (div_lt_iff_lt_mul m).2 D
        have r:=mod_lt p m;have b:p / size * size+p % size=p:=by rw[Nat.mul_comm];exact div_add_mod p size
        have u:=K (p / size) (p % size) es[p / size] (zbf F) r;rw[b] at u
        by_cases o:p / size=i
        . have g := t i (p % size) y.cells bj r
          rw[<-o,b] at g;subst o;rw[g,if_neg aa,if_pos aa]
          congr 1;omega
        . have g := t (p / size) (p % size) es[p / size] bj r
          rw[b] at g;rw[g,u];rcases Nat.lt_or_gt_of_ne o with k|l
          . have : (p / size + 1) * size ≤ i * size := zbx _ k
            grind
          . have : (i + 1) * size ≤ p / size * size := zbx _ l
            grind
      . grind
     simp only[l6];rw[show((y.cells.length == size && y.cells.all AV.one) && ble (i * size+size) es.flatten.length)=true by
      simp_all]
     grind
theorem zU {zs:List AV}{z:Array Value}{size len:Nat}(j:aP c w zs z.toList)(l:zs.length=size)(q:0<size) :
 aP c w (replicate len zs).flatten ((Array.range (len * size)).map (z[· % z.size]!)).toList:=by
 have g:z.size=size:=by rw[<-l];simpa using j.1.symm
 have b:∀(i:Nat) e,(replicate len zs)[i]? = some e->e.length=size:=by
  grind
 obtain⟨o,u⟩:=flat_get b;refine⟨by grind,fun p x v e f=>?_⟩
 obtain⟨m,t,s,d,n⟩:=By b e;have h:m=zs:=by
  rw[zcg] at d;split at d<;>simp at d
  exact d.symm
 subst h;have r:p<len * size:=by have:=(zbn.1 e).1;rw[o] at this;simpa using this
 simp[r] at f;rw[g] at f;have k:p % size<z.size:=aa;rw[zcG z (p % size) k] at f;exact j.2 (p % size) x v n bj
theorem sP (m:aN G c w H)(d:c.f nm=none)(a:nm+1<2 ^ 24)(t:TypeId){size:Nat}{es:List (List AV)}{arr:Array Value}{n:Nat}(l:n≤arr.size)(g:es.length * size≤n)
 (h:∀(i:Nat) e,es[i]? = some e->e.length=size)(o:∀(p:Nat) x,es.flatten[p]? = some x->∃v,arr[p]? = some v∧Rel c w x v) :
 Ext c w H (c.bind nm ⟨w.heap.size,0,n,size⟩) (w.alloc (.cells arr t)) (H.set 24 nm (some (.arr size es)))∧aN G (c.bind nm ⟨w.heap.size,0,n,size⟩) (w.alloc (.cells arr t)) (H.set 24 nm (some (.arr size es))):=by
 refine m.alloc d a t l g fun i e k=>⟨h i e k,fun j x q=>?_⟩
 have b:j<size:=by grind
 have:=(flat_get h).2 i j e k b
 grind
theorem sU {n size len cap:Nat}(b:len≤cap)(d:cap * size≤n)(a:cap≤9223372036854775807)(w':World):Rel (c.bind nm ⟨w.heap.size,0,n,size⟩) w' (.ay nm 0 len size) (.slice (some ⟨w.heap.size,0,none⟩) len cap):=
 Rel.ay (B:=⟨w.heap.size,0,n,size⟩) (by simp[Ctx.bind]) rfl b (fun _=>⟨ag,by grind⟩) a
theorem Pd (K:bZ P E)(X:aN G c w H)(z:c.f nm=none){t:TypeId}{len:Nat}{ps:List (Nat×AV)}{r:List (Nat×Value)}(hl:ps.length=r.length)
 (O:∀(i:Nat) p q,ps[i]? = some p->r[i]? = some q->p.1=q.1∧Rel c w p.2 q.2){x:bo ⊕ AV}(h:(KT E nm t len ps).run H=some x) :
 aX G c w H nm x ((Instr.buildSlice t len r.toArray).run P w):=by
 obtain⟨Z,N,h⟩:=cL h;obtain⟨d,hd,M,B⟩:=jW (K.ti t Z N);cases k:Z.desc with
 | slice e =>
   rw[k] at h B;obtain rfl:d = .slice e:=B;obtain⟨b,A,h⟩:=cL h;obtain⟨U,de,T,b1,b2,b3,b4,b5,b6,b7,b8,b9,b10,b11⟩:=(K.ti e b A).ok;obtain⟨W,h⟩:=cz h;simp only[zbe] at W;have hbig:=zbb W.1;have g:0<b.size:=by simpa using W.2
   cases I:pW b.size (replicate len b.zero) ps with
   | none=>rw[I] at h;exact(aF h).elim
   | some s =>
     rw[I] at h;obtain⟨m,rfl⟩:=jA h;have Q:∀(i:Nat) e,(replicate len b.zero)[i]? = some e->e.length=b.size:=by
      intro i e J;rw[zcg] at J;split at J<;>simp at J
      subst J;exact b9
     obtain⟨g1,g2,Y⟩:=GX g ps _ s Q I;have o:s.length=len:=by simpa using g2
     rcases zbX len with S|D
     . subst S
       have hes:s=[]:=zbh o;have L:ps=[]:=by
        cases ps with
        | nil=>rfl
        | cons p ps =>
          obtain⟨i,y⟩:=p;have hb:blt i (replicate 0 b.zero).length=false:=rfl;simp only[pW] at I
          grind
       subst L;obtain rfl:r=[]:=zbh bj;have u:(sizeOf e).run P w = .ok b.size w:=kr (K.ti e b A) w;have a:=sP X z m e (size:=b.size) (es:=s) (arr:=#[]) (n:=0) ag bj aa bj;refine⟨.slice (some ⟨w.heap.size,0,none⟩) 0 0,w.alloc (.cells #[] e),_,?_,a.1,a.2,sU (zbm _) ag (zbq _) _,Ctx.mV⟩;have V:Array.range 0=#[]:=rfl;simp[Instr.buildSlice,hd,u,Instr.fill,newRow,V]
     . obtain⟨l,f1,f2,_⟩:=wX (pl':=fun i=>some (i * U.size,U.size)) (c:=c) (w:=w) (fun i p hp=>by grind) ps r _ ((Array.range (len * b.size)).map (T.cells[· % T.cells.size]!)) _ hl O
        (zU (len:=len) (b8 c w) b9 g) g1
       have C:=run_buildSlice (P:=P) w t e len r.toArray l U T M b1 b7 bj (by rw[b3];have:=Nat.mul_pos D g;omega) bj
       have u:l.size=len * b.size:=by
        have:=f2.1;rw[(flat_get Y).1,o] at this
        simpa using this.symm
       have a := sP X z m e (size := b.size) (es := s) (arr := l) (n := len * b.size) aa bj Y (fun p x hp=>by
        obtain⟨v,hv,hr⟩:=f2.get hp
        grind)
       exact⟨_,_,_,C,a.1,a.2,sU (zbm _) (zbm _) (by have:=Nat.le_mul_of_pos_right len g;omega) _,Ctx.mV⟩
 | _=>rw[k] at h;exact(aF h).elim
theorem VJ (J:bZ P E)(hw:aN G c w H)(I:c.f nm=none){t:TypeId}{l Q:AV}{V W:Value}(hl:Rel c w l V)(hc:Rel c w Q W){x:bo ⊕ AV}(h:(yS E nm t l Q).run H=some x) :
 aX G c w H nm x ((Instr.makeSlice t V W).run P w):=by
 obtain⟨R,L,h⟩:=cL h;obtain⟨d,U,hd',u⟩:=jW (J.ti t R L);cases j:R.desc with
 | slice e =>
   rw[j] at h u;obtain rfl:d = .slice e:=u;cases hl with
   | int O A =>
     cases hc with
     | int X a =>
       cases O<;>(try exact(aF h).elim)
       cases X<;>(try exact(aF h).elim)
       obtain⟨k,C,h⟩:=cL h;obtain⟨D,de,K,S,b2,b3,Z,b5,b6,b7,b8,b9,b10,Y⟩:=(J.ti e k C).ok;obtain⟨T,h⟩:=cz h;obtain⟨s,rfl⟩:=jA h;simp only[zbe,zbz] at T;obtain⟨⟨⟨⟨h1,h2⟩,h3⟩,h4⟩,h5⟩:=T;have m:0<k.size:=by simpa using h5
       have y:IntKind.i64.wrap A=A:=by unfold IntKind.wrap IntKind.signed IntKind.bits;simp;omega
       have z:IntKind.i64.wrap a=a:=by unfold IntKind.wrap IntKind.signed IntKind.bits;simp;omega
       have o:(typeInfo e).run P w = .ok D w:=by simp[typeInfo,S]
       have B:(sizeOf e).run P w = .ok k.size w:=kr (J.ti e k C) w;have hz:(zeroValue e).run P w = .ok K w:=by simp[zeroValue,typeInfo,S,b7]
       have hnt:¬((D.bytes:Int) * a > 2 ^ 48):=by rw[Z];omega
       have q:=sP hw I s e (size:=k.size) (es:=replicate a.toNat k.zero) (arr:=(Array.range (a.toNat * k.size)).map (K.cells[· % K.cells.size]!)) (n:=a.toNat * k.size) ag ag
        (fun i e he=>by
          grind)
        (fun p x hp=>by
          obtain⟨v,hv,hr⟩:=(zU (len:=a.toNat) (b8 c w) b9 m).get hp
          grind)
       refine⟨.slice (some ⟨w.heap.size,0,none⟩) A.toNat a.toNat,_,_,?_,q.1,q.2,sU aa (zbm _) aa _,Ctx.mV⟩;have c1:(a<0 || decide ((D.bytes:Int) * a > 2 ^ 48))=false:=by simp;constructor<;>omega
       have g:((a<0 || decide ((D.bytes:Int) * a > 2 ^ 48)) || decide (A<0) || decide (A > a))=false:=by
        rw[c1];simp;constructor<;>omega
       rcases zbX a.toNat with r|r
       . have F : a.toNat * k.size = 0 := by rw [r]; simp
         simp only[Instr.makeSlice,Sem.run_bind,U,Result.andThen_ok,asInt,asIntOf,Sem.run_pure,o,y,z,g,zbH,zb8,run_askRoom,B,F,if_true,newRow,run_newObj_alloc]
         grind
       . have F : ¬ a.toNat * k.size = 0 := by have := Nat.mul_pos r m; omega
         simp only[Instr.makeSlice,Sem.run_bind,U,Result.andThen_ok,asInt,asIntOf,Sem.run_pure,o,y,z,g,zbH,zb8,run_askRoom,B,F,hz,newRow,run_newObj_alloc]
     | _=>exact(by cases O<;>exact(aF h).elim)
   | _=>exact(aF h).elim
 | _=>rw[j] at h;exact(aF h).elim
end
end Go.Ago
end
section
namespace Go.Ago
open List Nat
section
variable {P:Program} {E:Env} {G:eZ} {c:Ctx} {w:World} {H:aj} {nm:Nat}
def kC (c:Ctx)(w:World):Option AV->Option Value->Prop
 | none,none=>True
 | some x,some v=>Rel c w x v
 | _,_=>False
theorem run_sliceBound {k:IntKind}{n:Int}{y:Nat}{code:BoundsCode}(h0:0≤n)(b:n≤y)(w:World):(Instr.sliceBound (.int k n) y code).run P w = .ok n.toNat w:=by
 simp[Instr.sliceBound,asIntOf,h0,b]
theorem wx {d a:Int}{x:Option AV}{v:Option Value}(b:kC c w x v)(h:dt d x=some a):(v=none∧a=d)∨∃k,v=some (.int k a):=by
 cases x with
 | none => cases v with
   | none=>simp[dt] at h;grind
   | some v=>exact b.elim
 | some x => cases v with
   | none=>exact b.elim
   | some v =>
     cases b with
     | int k n=>simp[dt] at h;simp_all
     | _=>simp[dt] at h
theorem qG {isSlice:Bool}{len cap:Nat}{lo hi:Option AV}{f g:Option Value}{a b:Int}(h:kC c w lo f)(j:kC c w hi g)(i:dt 0 lo=some a)(l:dt len hi=some b)
 (h0:0≤a)(m:a≤b)(p:b≤len)(o:len≤cap)(w':World):(Instr.sliceBounds isSlice len cap f g none).run P w' = .ok (a.toNat,b.toNat,cap) w':=by
 rcases wx h i with⟨rfl,rfl⟩|⟨k,rfl⟩<;>rcases wx j l with⟨rfl,rfl⟩|⟨q,rfl⟩
 . rfl
 . simp[Instr.sliceBounds,run_sliceBound (y:=cap) aa aa]
 . simp[Instr.sliceBounds,run_sliceBound h0 aa]
 . have : a ≤ b.toNat := aa
   simp[Instr.sliceBounds,run_sliceBound (n:=b) (y:=cap) aa aa,run_sliceBound h0 this]
theorem Dt {len cap:Nat}{lo hi:Option AV}{i h:Option Value}{a b m:Int}{km:IntKind}(o:kC c w lo i)(l:kC c w hi h)(s:dt 0 lo=some a)(j:dt len hi=some b)
 (h0:0≤a)(u:a≤b)(t:b≤m)(p:m≤cap)(q:h≠none)(w':World):(Instr.sliceBounds true len cap i h (some (.int km m))).run P w' = .ok (a.toNat,b.toNat,m.toNat) w':=by
 have e:=run_sliceBound (P:=P) (k:=km) (code := .slice3Acap) aa p w';rcases wx l j with⟨rfl,rfl⟩|⟨r,rfl⟩
 . grind
 have f:=run_sliceBound (P:=P) (k:=r) (n:=b) (y:=m.toNat) (code := .slice3B) aa aa w';rcases wx o s with⟨rfl,rfl⟩|⟨k,rfl⟩
 . simp[Instr.sliceBounds,e,f]
 . have g := run_sliceBound (P := P) (k := k) (y := b.toNat) (code := .slice3C) h0 aa w'
   simp[Instr.sliceBounds,e,f,g]
theorem RT (l:List UInt8)(a b:Nat):(⟨l.toArray⟩:ByteArray).extract a b=⟨((l.drop a).take (b - a)).toArray⟩:=by
 apply ByteArray.ext
 simp
theorem mz {a b n:Int}(h:jB a b n=true):0≤a∧a≤b∧b≤n:=by
 simp[jB] at h;omega
theorem sX {es:List (List AV)}(a n:Nat):∀(i:Nat) e,((es.drop a).take n)[i]? = some e->es[a+i]? = some e∧i<n:=by
 grind
theorem Lg {k i sz cap:Nat}{B:fo}{a:Addr}(g:c.f k=some B)(j:B.sz=sz)(d:0<cap->a=⟨B.b,B.s+i * sz,none⟩∧(i+cap) * sz≤B.n)(o:cap≤9223372036854775807){l h m:Nat}(u:l≤h)(r:h≤m)(t:m≤cap)(w:World) :
 Rel c w (.ay k (i+l) (h - l) sz) (.slice (if m=l then some a else (some a).map (·.add (l * sz))) (h - l) (m - l)):=by
 by_cases e:m=l
 . subst e
   rw[if_pos rfl];have:h - m=0:=aa;rw[this,zcB];exact Rel.ay g j (zbm _) (fun h=>absurd h aa) aa
 . rw [if_neg e]
   obtain⟨rfl,q⟩:=d aa;refine Rel.ay g j aa (fun _=>⟨?_,?_⟩) aa
   . show (⟨B.b, B.s + i * sz, none⟩ : Addr).add (l * sz) = _
     rw[add_plain,zcs,Nat.add_assoc]
   . have : (i + l + (m - l)) * sz ≤ (i + cap) * sz := zbx _ aa
     omega
theorem KB {es:List (List AV)}{sz cap:Nat}{a:Addr}(vs:Nat->Nat->Value)(hi:0<es.length->c.aq a.block)(n:∀(i:Nat) e,es[i]? = some e->e.length=sz)
 (t:∀(i j:Nat),i<es.length->j<sz->w.cell? (a.add (i * sz+j))=some (vs i j))(o:∀(i j:Nat) e x,es[i]? = some e->e[j]? = some x->Rel c.bare w x (vs i j))
 {l h m:Nat}(u:l≤h)(r:h≤es.length)(s:h≤m)(p:m≤cap) :
 Rel c w (.ak sz ((es.drop l).take (h - l))) (.slice (if m=l then some a else (some a).map (·.add (l * sz))) (h - l) (m - l)):=by
 have g:((es.drop l).take (h - l)).length=h - l:=by simp;omega
 have b:∀(i:Nat) e,((es.drop l).take (h - l))[i]? = some e->e.length=sz:=fun i e d=>n _ e (sX l (h - l) i e d).1
 by_cases e:m=l
 . rw [if_pos e]
   have q:(es.drop l).take (h - l)=[]:=zbh aa;have f:h - l=0:=aa;rw[q,f];exact Rel.ak (es:=[]) (fun _ _=>undef) ag ag ag ag ag
 . rw [if_neg e]
   have := Rel.ak (c := c) (w := w) (es := (es.drop l).take (h - l)) (sz := sz) (cap := m - l) (a := a.add (l * sz)) (fun i j => vs (l + i) j) aa (fun h => by rw [block_add]; grind) b (fun i j v y=>by
    rw[vO,<-Nat.add_assoc,<-zcs]
    grind) (fun i j e x d k=>o (l+i) j e x (sX l (h - l) i e d).1 k)
   grind
theorem Y6 (hE:bZ P E)(L:aN G c w H){t:TypeId}{y:AV}{u:Value}(hy:Rel c w y u){lo hi mx:Option AV}{lv V J:Option Value}(r:kC c w lo lv)(v:kC c w hi V)(n:kC c w mx J)
 {x:bo ⊕ AV}(h:(nO E t y lo hi mx).run H=some x):aX G c w H nm x ((Instr.sliceAt t u lv V J).run P w):=by
 obtain⟨ti,hti,h⟩:=cL h;obtain⟨d,O,hd',Q⟩:=jW (hE.ti t ti hti);cases I:ti.desc with
 | string =>
   rw[I] at h Q;obtain rfl:d = .string:=Q;cases hy with
   | str l =>
     dsimp only at h;cases mx with
     | some _=>exact(aF h).elim
     | none =>
       cases J with
       | some _=>exact n.elim
       | none =>
         cases j:dt 0 lo with
         | none=>rw[j] at h;exact(aF h).elim
         | some a =>
           cases p:dt l.length hi with
           | none=>rw[j,p] at h;exact(aF h).elim
           | some b =>
             rw[j,p] at h;obtain⟨q,h⟩:=cz h;obtain rfl:=bE h;obtain⟨F,D,A⟩:=mz q;have s:(⟨l.toArray⟩:ByteArray).size=l.length:=by simp[ByteArray.size]
             have g:=qG (P:=P) (isSlice:=false) (len:=l.length) (cap:=l.length) r v j p F D A (zbm _) w;simp only[Instr.sliceAt,Sem.run_bind,O,Result.andThen_ok,Instr.slice,Option.isSome_none,zbH,zb8,s,g,Sem.run_pure,RT];exact aX.quiet L (.str _)
   | _=>exact(aF h).elim
 | slice e =>
   rw[I] at h Q;obtain rfl:d = .slice e:=Q;have hunf:∀u',(Instr.sliceAt t u' lv V J).run P w=(Instr.slice t u' lv V J).run P w:=fun u'=>by simp[Instr.sliceAt,O]
   rw[hunf];have C:∀z,E.ti e=some z->(sizeOf e).run P w = .ok z.size w:=fun z o=>kr (hE.ti e z o) w
   cases hy with
   | ai =>
     obtain⟨z,o,h⟩:=cL h;cases mx with
     | some _=>exact(aF h).elim
     | none =>
       cases J with
       | some _=>exact n.elim
       | none =>
         cases j:dt 0 lo with
         | none=>rw[j] at h;exact(aF h).elim
         | some a =>
           cases p:dt 0 hi with
           | none=>rw[j,p] at h;exact(aF h).elim
           | some b =>
             rw[j,p] at h;obtain⟨q,h⟩:=cz h;obtain rfl:=bE h;obtain⟨F,D,A⟩:=mz q;obtain rfl:a=0:=aa;obtain rfl:b=0:=aa;have g:=qG (P:=P) (isSlice:=true) (len:=0) (cap:=0) r v j p F D A (zbm _) w;simp only[Instr.slice,Sem.run_bind,O,Result.andThen_ok,g,C z o,Sem.run_pure];simp only[zcS,zcB,if_true];exact aX.quiet L .ai
   | iA =>
     obtain⟨z,o,h⟩:=cL h;cases mx with
     | some _=>exact(aF h).elim
     | none =>
       cases J with
       | some _=>exact n.elim
       | none =>
         cases j:dt 0 lo with
         | none=>rw[j] at h;exact(aF h).elim
         | some a =>
           cases p:dt 0 hi with
           | none=>rw[j,p] at h;exact(aF h).elim
           | some b =>
             rw[j,p] at h;obtain⟨q,h⟩:=cz h;obtain rfl:=bE h;obtain⟨F,D,A⟩:=mz q;obtain rfl:a=0:=aa;obtain rfl:b=0:=aa;have g:=qG (P:=P) (isSlice:=true) (len:=0) (cap:=0) r v j p F D A (zbm _) w;simp only[Instr.slice,Sem.run_bind,O,Result.andThen_ok,g,C z o,Sem.run_pure];simp only[zcS,zcB,if_true];exact aX.quiet L .iA
   | fh W =>
     obtain⟨z,o,h⟩:=cL h;obtain⟨s,h⟩:=cz h;cases j:dt 0 lo with
     | none=>rw[j] at h;exact(aF h).elim
     | some a =>
       cases p:dt ([]:List (List AV)).length hi with
       | none=>rw[j,p] at h;exact(aF h).elim
       | some b =>
         rw[j,p] at h;dsimp only at h;cases mx with
         | none =>
           cases J with
           | some _=>exact n.elim
           | none =>
             obtain⟨q,h⟩:=cz h;obtain rfl:=bE h;obtain⟨F,D,A⟩:=mz q;simp only[zbp] at p A;obtain rfl:a=0:=aa;obtain rfl:b=0:=aa;have g:=qG (P:=P) (isSlice:=true) (len:=0) (cap:=0) r v j p F D A (zbm _) w;simp only[Instr.slice,Sem.run_bind,O,Result.andThen_ok,g,C z o,Sem.run_pure];simp only[zcS,zcB,if_true];exact aX.quiet L (.fh W)
         | some Y =>
           cases J with
           | none=>exact n.elim
           | some Z =>
             cases hi with
             | none=>cases n<;>exact(aF h).elim
             | some hi'' =>
               cases n with
               | int km m =>
                 obtain⟨q,h⟩:=cz h;simp only[zbe,zbz] at q;obtain⟨F,D,A⟩:=mz q.1;simp only[zbp] at p q;obtain rfl:a=0:=aa;obtain rfl:b=0:=aa;obtain rfl:m=0:=aa;have g:=Dt (P:=P) (len:=0) (cap:=0) (km:=km) r v j p F D A aa (by cases V<;>simp_all[kC]) w
                 simp only[Instr.slice,Sem.run_bind,O,Result.andThen_ok,g,C z o,Sem.run_pure];rcases sR h with⟨M,h⟩|⟨M,h⟩
                 . obtain rfl := bE h
                   simp only[zcS,zcB,if_true];exact aX.quiet L .iA
                 grind
               | _=>exact(aF h).elim
   | cW ad =>
     obtain⟨z,o,h⟩:=cL h;cases mx with
     | some _=>exact(aF h).elim
     | none =>
       cases J with
       | some _=>exact n.elim
       | none =>
         cases j:dt 0 lo with
         | none=>rw[j] at h;exact(aF h).elim
         | some a =>
           cases p:dt 0 hi with
           | none=>rw[j,p] at h;exact(aF h).elim
           | some b =>
             rw[j,p] at h;obtain⟨q,h⟩:=cz h;obtain rfl:=bE h;obtain⟨F,D,A⟩:=mz q;obtain rfl:a=0:=aa;obtain rfl:b=0:=aa;have g:=qG (P:=P) (isSlice:=true) (len:=0) (cap:=0) r v j p F D A (zbm _) w;simp only[Instr.slice,Sem.run_bind,O,Result.andThen_ok,g,C z o,Sem.run_pure];simp only[zcS,zcB,if_true];exact aX.quiet L (.cW ad)
   | @ay _ _ k i T W K B ad hf hs N S R =>
     obtain⟨z,o,h⟩:=cL h;obtain⟨s,h⟩:=cz h;have s:W=z.size:=by simpa using s
     subst s;cases j:dt 0 lo with
     | none=>rw[j] at h;exact(aF h).elim
     | some a =>
       cases p:dt T hi with
       | none=>rw[j,p] at h;exact(aF h).elim
       | some b =>
         rw[j,p] at h;dsimp only at h;cases mx with
         | none =>
           cases J with
           | some _=>exact n.elim
           | none =>
             obtain⟨q,h⟩:=cz h;obtain rfl:=bE h;obtain⟨F,D,A⟩:=mz q;have g:=qG (P:=P) (isSlice:=true) (len:=T) (cap:=K) r v j p F D A N w;simp only[Instr.slice,Sem.run_bind,O,Result.andThen_ok,g,C z o,Sem.run_pure];exact aX.quiet L (Lg hf hs S R aa aa (zbm _) w)
         | some Y =>
           cases J with
           | none=>exact n.elim
           | some Z =>
             cases hi with
             | none=>cases n<;>exact(aF h).elim
             | some U =>
               cases n with
               | int km m =>
                 obtain⟨q,h⟩:=cz h;simp only[zbe,zbz] at q;obtain⟨F,D,A⟩:=mz q.1;have g:=Dt (P:=P) (len:=T) (cap:=K) (km:=km) r v j p F D A aa (by cases V<;>simp_all[kC]) w
                 simp only[Instr.slice,Sem.run_bind,O,Result.andThen_ok,g,C z o,Sem.run_pure];rcases sR h with⟨M,h⟩|⟨M,h⟩
                 . obtain rfl := bE h
                   have M:a=m:=by simpa using M
                   subst M;obtain rfl:b=a:=aa;simp only[zcB,if_true];exact aX.quiet L (.cW ad)
                 . obtain rfl := bE h
                   exact aX.quiet L (Lg hf hs S R aa aa aa w)
               | _=>exact(aF h).elim
   | @ak _ _ W es K ad vs N U hl hc hr =>
     obtain⟨z,o,h⟩:=cL h;obtain⟨s,h⟩:=cz h;have s:W=z.size:=by simpa using s
     subst s;cases j:dt 0 lo with
     | none=>rw[j] at h;exact(aF h).elim
     | some a =>
       cases p:dt es.length hi with
       | none=>rw[j,p] at h;exact(aF h).elim
       | some b =>
         rw[j,p] at h;dsimp only at h;cases mx with
         | none =>
           cases J with
           | some _=>exact n.elim
           | none =>
             obtain⟨q,h⟩:=cz h;obtain rfl:=bE h;obtain⟨F,D,A⟩:=mz q;have g:=qG (P:=P) (isSlice:=true) (len:=es.length) (cap:=K) r v j p F D A N w;simp only[Instr.slice,Sem.run_bind,O,Result.andThen_ok,g,C z o,Sem.run_pure];exact aX.quiet L (KB vs U hl hc hr aa aa aa (zbm _))
         | some Y =>
           cases J with
           | none=>exact n.elim
           | some Z =>
             cases hi with
             | none=>cases n<;>exact(aF h).elim
             | some hi'' =>
               cases n with
               | int km m =>
                 obtain⟨q,h⟩:=cz h;simp only[zbe,zbz] at q;obtain⟨F,D,A⟩:=mz q.1;have g:=Dt (P:=P) (len:=es.length) (cap:=K) (km:=km) r v j p F D A aa (by cases V<;>simp_all[kC]) w
                 simp only[Instr.slice,Sem.run_bind,O,Result.andThen_ok,g,C z o,Sem.run_pure];rcases sR h with⟨M,h⟩|⟨M,h⟩
                 . obtain rfl := bE h
                   have M:a=m:=by simpa using M
                   subst M;obtain rfl:b=a:=aa;simp only[zcB,if_true];exact aX.quiet L (.cW ad)
                 . obtain rfl := bE h
                   exact aX.quiet L (KB (cap:=K) vs U hl hc hr aa aa aa aa)
               | _=>exact(aF h).elim
   | _=>exact(aF h).elim
 | _=>rw[I] at h;exact(aF h).elim
end
end Go.Ago
end
section
namespace Go.Ago
open List Nat
section
variable {P:Program} {E:Env} {G:eZ} {c:Ctx} {w:World} {H:aj} {nm:Nat}
def valOf (a:Bool)(vs:List Value):Value:=match a with
 | true => .agg vs.toArray
 | false=>vs.headD undef
theorem GB (hE:bZ P E)(d:Nat):∀(t:TypeId) (M:TI) (xs ys:List AV) (vs us:List Value) (b:Bool),E.ti t=some M->fc E d t xs ys=some b->aP c w xs vs->aP c w ys us->
 ∀n,d≤n->(Op.equalIn n t (valOf M.agg vs) (valOf M.agg us)).run P w = .ok b w:=by
 induction d with
 | zero=>intro t M xs ys vs us b _ h;simp[fc] at h
 | succ d ih =>
   intro t M xs ys vs us b hti h hx hy n hn;obtain⟨n,rfl⟩:∃m,n=m+1:=⟨n - 1,aa⟩;simp only[fc,hti] at h;have ht:=hE.ti t M hti;obtain⟨L,dd,z,a1,a2,a3,a4,a5,W,a7,a8,a9,a10,a11⟩:=ht.ok;cases hq:M.kI with
   | false=>grind
   | true =>
     rw[hq] at h;dsimp only at h;cases p:M.desc with
     | int k =>
       rw[p] at h W;obtain rfl:dd = .int k:=W;have I:M.agg=false:=a5
       match xs,ys,h with
       | [.int k1 x], [.int k2 y], h =>
         obtain⟨v,vs',rfl,hv,hvs⟩:=hx.dP;obtain⟨u,us',rfl,hu,hus⟩:=hy.dP;cases hv;cases hu;dsimp only at h;cases hk:decide (k1=k2) with
         | false=>grind
         | true =>
           rw[hk] at h;have hk:k1=k2:=by simpa using hk
           subst hk;simp only[zbg] at h;subst h;simp[Op.equalIn,run_underlying a2,I,valOf]
     | bool =>
       rw[p] at h W;obtain rfl:dd = .bool:=W;have I:M.agg=false:=a5
       match xs,ys,h with
       | [.bool x], [.bool y], h =>
         obtain⟨v,vs',rfl,hv,hvs⟩:=hx.dP;obtain⟨u,us',rfl,hu,hus⟩:=hy.dP;cases hv;cases hu;simp only[zbg] at h;subst h;simp[Op.equalIn,run_underlying a2,I,valOf]
     | string =>
       rw[p] at h W;obtain rfl:dd = .string:=W;have I:M.agg=false:=a5
       match xs,ys,h with
       | [.str x], [.str y], h =>
         obtain⟨v,vs',rfl,hv,hvs⟩:=hx.dP;obtain⟨u,us',rfl,hu,hus⟩:=hy.dP;cases hv;cases hu;simp only[zbg] at h;subst h;simp only[Op.equalIn,Sem.run_bind,run_underlying a2,Result.andThen_ok,I,valOf,headD_cons,Sem.run_pure]
         congr 1
         rw[beq_toListBytes,ByteArray.toList_mk,ByteArray.toList_mk]
     | struct fs =>
       rw[p] at h W;dsimp only at h;obtain⟨A,rfl,X,hfs⟩:=W;have I:M.agg=true:=a5;have dy:=(ht.kI hq).2 fs p;have hfo:P.fieldsOf t=A:=by simp[Program.fieldsOf,a2]
       simp only[I,valOf];rw[run_equalIn_struct w n t vs.toArray us.toArray bj dy,hfo];have hfl:A.toList.length=fs.length:=by simpa using X
       have hfs':∀(i r J:Nat) (t:TypeId),fs[i]? = some (r,J,t)->∃f L,A.toList[i]? = some f∧f.offset=r∧f.type=t∧P.info? t=some L∧L.size=J∧f.name ≠ "_":=
        fun i r J t e=>by
         grind
       clear a2 a5 hfs X hfo p
       generalize A.toList=fl at *
       clear A
       induction fs generalizing fl b with
       | nil =>
         obtain rfl:fl=[]:=zbh aa;simp only[fc.eqF,zbg] at h;subst h;rfl
       | cons q fs ihf =>
         obtain⟨r,J,ft⟩:=q;cases fl with
         | nil=>grind
         | cons f fl =>
           obtain⟨f',finfo,b1,b2,b3,b4,b5,b6⟩:=hfs' 0 r J ft rfl;simp at b1;subst b1;simp only[fc.eqF] at h;cases F:(ble (r+J) xs.length && ble (r+J) ys.length) with
           | false=>grind
           | true =>
             rw[F] at h;dsimp only at h;simp only[zbe] at F;have O:=zbb F.1;have Q:=zbb F.2;cases C:fc E d ft ((xs.drop r).take J) ((ys.drop r).take J) with
             | none=>grind
             | some r1 =>
               cases h2:fc.eqF (fc E d) fs xs ys with
               | none=>grind
               | some r2 =>
                 rw[C,h2] at h;simp only[zbg] at h;subst h;have hft:∃l,E.ti ft=some l:=by
                  cases d with
                  | zero=>simp[fc] at C
                  | succ d =>
                    simp only[fc] at C
                    grind
                 obtain⟨l,htf⟩:=hft;have a:=hE.ti ft l htf;have X:l.size=J:=by
                  obtain⟨i2,_,_,c1,_,c3,_⟩:=a.ok;rw[b4] at c1;cases c1;rw[<-c3,b5]
                 have B:∀{Z:List AV} {N:List Value},aP c w Z N->r+J≤Z.length->(part ft N.toArray r).run P w = .ok (valOf l.agg ((N.drop r).take J)) w:=by
                  intro Z N hr hl;have hwl:Z.length=N.length:=hr.1;simp only[part,Sem.run_bind,vg a,Result.andThen_ok];cases D:l.agg with
                  | true =>
                    simp only[if_true,Sem.run_bind,kr a,Result.andThen_ok,Sem.run_pure,valOf,X];simp
                  | false =>
                    have h1z:0<J:=by
                     obtain⟨_,_,z,_,_,_,_,_,_,_,e8,e9,_,e11⟩:=a.ok;have uD:=e11 c w;rw[D] at uD;rcases zbX J with h0|h0
                     . exfalso
                       have hz0:l.zero=[]:=zbh aa;have he8:=e8 c w;rw[hz0] at he8;have:=he8.fX;cases d with
                       | zero=>simp[fc] at C
                       | succ d =>
                         simp only[fc,htf] at C;subst h0;cases hq2:l.kI<;>rw[hq2] at C<;>dsimp only at C
                         . cases C
                         . cases K : l.desc <;> rw [K] at C <;> simp at C
                           . obtain ⟨_, dd2, _, _, _, _, _, R, U, _⟩ := a.ok
                             rw[K] at U;obtain⟨_,rfl,_⟩:=U;rw[D] at R;cases R
                           . obtain ⟨_, dd2, _, _, _, _, _, R, U, _⟩ := a.ok
                             rw[K] at U;obtain rfl:=U;rw[D] at R;cases R
                     . exact h0
                    have V:r<N.length:=aa;simp only[zbH,zb8,zbR,zbf V,Sem.run_pure,valOf]
                    congr 1
                    rw[headD_eq_head?_getD,head?_take,if_neg aa,head?_drop,zbf V];rfl
                 have e1:=ih ft l _ _ _ _ r1 htf C ((hx.drop r).take J) ((hy.drop r).take J) n aa;have e2 := ihf r2 h2 fl bj (fun i o s t e=>by
                  obtain⟨g,L,c1,c2⟩:=hfs' (i+1) o s t bj
                  grind)
                 simp only[Op.eqFields,b6,ne_eq,not_false_eq_true,if_true,Sem.run_bind,b3,b2,B hx O,B hy Q,Result.andThen_ok,e1];cases r1 with
                 | true=>grind
                 | false=>simp
     | array len e =>
       rw[p] at h W;dsimp only at h;obtain rfl:dd = .array len e:=W;have I:M.agg=true:=a5;cases Y:E.ti e with
       | none=>grind
       | some l =>
         rw[Y] at h;dsimp only at h;have a:=hE.ti e l Y;obtain⟨i2,_,_,c1,_,_,_⟩:=a.ok;have hcell:P.cellsOf e=l.size:=by
          have k1:=run_sizeOf (P:=P) w c1;rw[kr a] at k1
          injection k1 with k1
          exact k1.symm
         simp only[I,valOf];rw[run_equalIn_array (w:=w) n vs.toArray us.toArray a2 c1,hcell];clear a2 a5 p
         generalize List.range len=is at h
         induction is generalizing b with
         | nil =>
           simp only[map_nil,fc.eqF,zbg] at h;subst h;rfl
         | cons j is ihf =>
           simp only[zcq,fc.eqF] at h;cases F:(ble (j * l.size+l.size) xs.length && ble (j * l.size+l.size) ys.length) with
           | false=>grind
           | true =>
             rw[F] at h;dsimp only at h;simp only[zbe] at F;have O:=zbb F.1;have Q:=zbb F.2;cases C:fc E d e ((xs.drop (j * l.size)).take l.size) ((ys.drop (j * l.size)).take l.size) with
             | none=>grind
             | some r1 =>
               cases h2:fc.eqF (fc E d) (is.map fun i=>(i * l.size,l.size,e)) xs ys with
               | none=>grind
               | some r2 =>
                 rw[C,h2] at h;simp only[zbg] at h;subst h;have B:∀{Z:List AV} {N:List Value},aP c w Z N->j * l.size+l.size≤Z.length->(part e N.toArray (j * l.size)).run P w = .ok (valOf l.agg ((N.drop (j * l.size)).take l.size)) w:=by
                  intro Z N hr hl;have hwl:Z.length=N.length:=hr.1;simp only[part,Sem.run_bind,vg a,Result.andThen_ok];cases D:l.agg with
                  | true =>
                    simp only[if_true,Sem.run_bind,kr a,Result.andThen_ok,Sem.run_pure,valOf];simp
                  | false =>
                    have h1z:0<l.size:=by
                     obtain⟨_,_,z,_,_,_,_,_,_,_,e8,e9,_,e11⟩:=a.ok;rcases zbX l.size with h0|h0
                     . exfalso
                       cases d with
                       | zero=>simp[fc] at C
                       | succ d =>
                         simp only[fc,Y] at C;rw[h0] at C;cases hq2:l.kI<;>rw[hq2] at C<;>dsimp only at C
                         . cases C
                         . cases K : l.desc <;> rw [K] at C <;> simp at C
                           . obtain ⟨_, dd2, _, _, _, _, _, R, U, _⟩ := a.ok
                             rw[K] at U;obtain⟨_,rfl,_⟩:=U;rw[D] at R;cases R
                           . obtain ⟨_, dd2, _, _, _, _, _, R, U, _⟩ := a.ok
                             rw[K] at U;obtain rfl:=U;rw[D] at R;cases R
                     . exact h0
                    have V:j * l.size<N.length:=aa;simp only[zbH,zb8,zbR,zbf V,Sem.run_pure,valOf]
                    congr 1
                    rw[headD_eq_head?_getD,head?_take,if_neg aa,head?_drop,zbf V];rfl
                 have e1:=ih e l _ _ _ _ r1 Y C ((hx.drop (j * l.size)).take l.size) ((hy.drop (j * l.size)).take l.size) n aa;have e2:=ihf r2 h2;simp only[Op.eqItems,Sem.run_bind,B hx O,B hy Q,Result.andThen_ok,e1];cases r1 with
                 | true=>grind
                 | false=>simp
     | _=>grind
theorem ET {t:TypeId}(f:bZ P E){xs ys:List AV}{b:Bool}(h:fc E 10 t xs ys=some b):P.eqGuardType P.depth t=false:=by
 simp only[fc] at h;cases e:E.ti t with
 | none=>simp_all
 | some a =>
   rw[e] at h;dsimp only at h;cases d:a.kI with
   | false=>simp_all
   | true=>exact((f.ti t a e).kI d).1
theorem pT {t:TypeId}{v u:Value}{b:Bool}(h:∀d,(Op.equalIn (d+1) t v u).run P w = .ok b w):(Op.equal t v u).run P w = .ok b w:=h _
theorem na (d:aN G c w H){neq:Bool}{t:TypeId}{e a:Operand}{v u:Value}{b:Bool}(j:∀f,(eqGuard f t e a v u).run P w = .ok () w)
 (i:binOp .eql t v u=(do pure (.bool (<-Op.equal t v u)):Sem Value))(g:binOp .neq t v u=(do pure (.bool (!(<-Op.equal t v u))):Sem Value))(h:(Op.equal t v u).run P w = .ok b w) :
 aX G c w H nm (.inl ⟨.bool (eU neq b),[]⟩) ((do eqGuard (if neq then .neq else .eql) t e a v u;binOp (if neq then .neq else .eql) t v u:Sem Value).run P w):=by
 cases neq
 . simp_all
   exact aX.quiet d (.bool _)
 simp_all
 exact aX.quiet d (.bool _)
theorem RL {e:BinOp}{t:TypeId}{b a:Operand}(d:(iD b || iD a)=true):(eqGuard e t b a .nilIface .nilIface).run P w = .ok () w:=by
 unfold eqGuard;cases b<;>cases a<;>first|(simp[iD] at d;done)|(split<;>simp)
theorem H7 {x:AV}{v:Value}(h:Rel c w x v)(b:Bool)(e:isNil x=some b):(b=true∧v = .slice none 0 0)∨(b=false∧∃a len cap,v = .slice (some a) len cap):=by
 cases h with
 | ai=>simp only[isNil,zbg] at e;grind
 | ay _ _ _ _=>simp only[isNil,zbg] at e;grind
 | @ak _ _ l g cap a n _ _ _ _ _ =>
   cases g with
   | nil=>simp[isNil] at e
   | cons y m=>simp only[isNil,zbg] at e;grind
 | _=>simp[isNil] at e
set_option maxHeartbeats 2000000 in
theorem GG (hE:bZ P E)(hw:aN G c w H){neq:Bool}{t:TypeId}{ox oy:Operand}{x y:AV}{v u:Value}(hx:Rel c w x v)(hy:Rel c w y u){r:bo ⊕ AV}
 (h:(vi E neq t (iD ox || iD oy) x y).run H=some r) :
 aX G c w H nm r ((do eqGuard (if neq then .neq else .eql) t ox oy v u;binOp (if neq then .neq else .eql) t v u:Sem Value).run P w):=by
 obtain⟨ti,hti,h⟩:=cL h;have ht:=hE.ti t ti hti;obtain⟨info,d,z,a1,a2,a3,a4,a5,i,a7,a8,a9,a10,a11⟩:=ht.ok;cases f:ti.desc with
 | bool =>
   rw[f] at h i;obtain rfl:d = .bool:=i;cases hx with
   | bool a =>
     cases hy with
     | bool b =>
       obtain rfl:=bE h;exact na hw (fun op=>by unfold eqGuard;simp) rfl rfl (pT fun d=>by simp[Op.equalIn,run_underlying a2])
     | _=>exact(aF h).elim
   | _=>exact(aF h).elim
 | ptr =>
   rw[f] at h i;obtain⟨e,rfl⟩:=i;cases hx<;>cases hy<;>(try exact(aF h).elim)<;>
    (obtain rfl := bE h
     exact na hw (fun op=>by unfold eqGuard;simp) rfl rfl (pT fun d=>by simp[Op.equalIn,run_underlying a2]))
 | slice e =>
   rw[f] at h i;obtain rfl:d = .slice e:=i;have hnx:=H7 hx;have hny:=H7 hy;dsimp only at h;cases ex:isNil x with
   | none=>rw[ex] at h;cases ey:isNil y<;>rw[ey] at h<;>(try cases ‹Bool›)<;>exact(aF h).elim
   | some p =>
     cases ey:isNil y with
     | none=>rw[ex,ey] at h;cases p<;>exact(aF h).elim
     | some q =>
       rw[ex,ey] at h;have h1:=hnx p ex;have h2:=hny q ey;cases p<;>cases q<;>(try exact(aF h).elim)<;>simp only[zbH,Bool.true_eq_false,false_and,true_and,zca,false_or,reduceCtorEq] at h1 h2<;>
        (obtain rfl := bE h
         first
          | (obtain⟨a1',l1,c1,rfl⟩:=h1;subst h2)
          | (obtain⟨a1',l1,c1,rfl⟩:=h2;subst h1)
         exact na hw (fun op=>by unfold eqGuard;simp) rfl rfl (pT fun d=>by simp[Op.equalIn,run_underlying a2]))
 | func =>
   rw[f] at h i;obtain⟨p,q,s,rfl⟩:=i;cases hx<;>cases hy<;>(try exact(aF h).elim)<;>
    (obtain rfl := bE h
     exact na hw (fun op=>by unfold eqGuard;simp) rfl rfl (pT fun d=>by simp[Op.equalIn,run_underlying a2]))
 | iface =>
   rw[f] at h i;obtain⟨ms,rfl⟩:=i;cases hx with
   | eI =>
     cases hy with
     | eI =>
       cases hc:(iD ox || iD oy) with
       | false=>rw[hc] at h;exact(aF h).elim
       | true =>
         rw[hc] at h;obtain rfl:=bE h;exact na hw (fun op=>RL hc) rfl rfl (pT fun d=>by simp[Op.equalIn,run_underlying a2])
     | cG t' hv =>
       obtain rfl:=bE h;exact na hw (fun op=>by unfold eqGuard;simp) rfl rfl (pT fun d=>by simp[Op.equalIn,run_underlying a2])
     | _=>exact(aF h).elim
   | cG t' hv =>
     cases hy with
     | eI =>
       obtain rfl:=bE h;exact na hw (fun op=>by unfold eqGuard;simp) rfl rfl (pT fun d=>by simp[Op.equalIn,run_underlying a2])
     | _=>exact(aF h).elim
   | _=>exact(aF h).elim
 | struct fs =>
   rw[f] at h i;obtain⟨fields,rfl,_⟩:=i;have hag:ti.agg=true:=a5;cases hx with
   | @agg _ _ xs vs hl hr =>
     cases hy with
     | @agg _ _ ys us hl' hr' =>
       dsimp only at h;cases he:fc E 10 t xs ys with
       | none=>rw[he] at h;exact(aF h).elim
       | some b =>
         rw[he] at h;obtain rfl:=bE h;have hg:=ET hE he;have g:=GB (c:=c) (w:=w) hE 10 t ti xs ys vs us b hti he ⟨hl,hr⟩ ⟨hl',hr'⟩;rw[hag] at g;exact na hw (fun op=>by unfold eqGuard;simp_all) rfl rfl (g 10000 aa)
     | _=>exact(aF h).elim
   | _=>exact(aF h).elim
 | array len e =>
   rw[f] at h i;obtain rfl:=i;have hag:ti.agg=true:=a5;cases hx with
   | @agg _ _ xs vs hl hr =>
     cases hy with
     | @agg _ _ ys us hl' hr' =>
       dsimp only at h;cases he:fc E 10 t xs ys with
       | none=>rw[he] at h;exact(aF h).elim
       | some b =>
         rw[he] at h;obtain rfl:=bE h;have hg:=ET hE he;have g:=GB (c:=c) (w:=w) hE 10 t ti xs ys vs us b hti he ⟨hl,hr⟩ ⟨hl',hr'⟩;rw[hag] at g;exact na hw (fun op=>by unfold eqGuard;simp_all) rfl rfl (g 10000 aa)
     | _=>exact(aF h).elim
   | _=>exact(aF h).elim
 | _=>rw[f] at h;exact(aF h).elim
theorem toNat_and (k:IntKind)(a:BinOp)(x y:Int)(h:a = .and∨a = .or∨a = .xor∨a = .andNot)(w:World):(Op.intBits a k x y).run P w = .ok (.int k (dU a k x y)) w:=by
 rcases h with rfl|rfl|rfl|rfl<;>simp[Op.intBits,dU]
theorem OU (J:bZ P E)(j:aN G c w H){g:BinOp}{t:TypeId}{o q:Operand}{x y:AV}{v u:Value}(I:Rel c w x v)(B:Rel c w y u){r:bo ⊕ AV}
 (h:(my E g t (iD o || iD q) x y).run H=some r) :
 aX G c w H nm r ((do eqGuard g t o q v u;binOp g t v u:Sem Value).run P w):=by
 have d:∀(M:¬∃(k:IntKind) (a:Int) (s:IntKind) (b:Int),x = .int k a∧y = .int s b) (K:¬∃(a b:List UInt8),x = .str a∧y = .str b),
  aX G c w H nm r ((do eqGuard g t o q v u;binOp g t v u:Sem Value).run P w):=by
  intro M K;have C : (match g with
   | .eql=>vi E false t (iD o || iD q) x y
   | .neq=>vi E true t (iD o || iD q) x y
   | _ => .fail).run H=some r:=by
   unfold my at h;split at h
   . grind
   . grind
   . exact h
  cases g<;>first
   | exact(aF C).elim
   | exact GG (neq:=false) J j I B C
   | exact GG (neq:=true) J j I B C
 cases I with
 | int k a =>
   cases B with
   | int s b =>
     have f:∀g,(eqGuard g t o q (.int k a) (.int s b)).run P w = .ok () w:=by
      intro g;unfold eqGuard;split<;>simp
     simp only[Sem.run_bind,f,Result.andThen_ok];clear d;cases g
     case shl=>
      obtain⟨i,h⟩:=cz h;obtain rfl:=bE h;have i:0≤b:=by simpa using i
      have:¬b<0:=aa;simp only[binOp,Op.shift,this,zb8,Sem.run_pure,wr];exact aX.quiet j (.int _ _)
     case shr=>
      obtain⟨i,h⟩:=cz h;obtain rfl:=bE h;have i:0≤b:=by simpa using i
      have:¬b<0:=aa;simp only[binOp,Op.shift,this,zb8,Sem.run_pure];exact aX.quiet j (.int _ _)
     all_goals
      simp only[my] at h;cases A:decide (k=s) with
      | false=>rw[A] at h;exact(aF h).elim
      | true =>
        rw[A] at h;have A:k=s:=by simpa using A
        subst A;dsimp only at h
        first
        | (obtain rfl := bE h
           first
           | (simp only[binOp,ne_eq,not_true,zb8,Op.intArith,Sem.run_pure,wr];exact aX.quiet j (.int _ _))
           | (simp only[binOp,ne_eq,not_true,zb8,Op.intCmp,Sem.run_pure];exact aX.quiet j (.bool _)))
        | (obtain ⟨i, h⟩ := cz h
           obtain rfl:=bE h;have i:¬b=0:=by simpa using i
           simp only[binOp,ne_eq,not_true,zb8,Op.intDiv,i,Sem.run_pure,wr];exact aX.quiet j (.int _ _))
   | _=>exact d (by rintro⟨_,_,_,_,m,p⟩;cases p) (by rintro⟨_,_,m,p⟩;cases m)
 | str a =>
   cases B with
   | str b =>
     have f:∀g,(eqGuard g t o q (.string ⟨a.toArray⟩) (.string ⟨b.toArray⟩)).run P w = .ok () w:=by
      intro g;unfold eqGuard;split<;>simp
     simp only[Sem.run_bind,f,Result.andThen_ok];clear d;cases g<;>(try exact(aF h).elim)
     case add=>
      obtain⟨i,h⟩:=cz h;obtain rfl:=bE h;have i:=zbb i;have z:∀l:List UInt8,(⟨l.toArray⟩:ByteArray).size=l.length:=fun l=>by rfl
      have:¬(((⟨a.toArray⟩:ByteArray).size+(⟨b.toArray⟩:ByteArray).size:Nat):Int) > IntKind.i64.max:=by
       rw[z,z];simp[IntKind.max,IntKind.signed,IntKind.bits];omega
      simp only[binOp,Op.stringOp,this,zb8,Sem.run_pure];have e:(⟨a.toArray⟩:ByteArray)++⟨b.toArray⟩=⟨(a++b).toArray⟩:=by
       apply ByteArray.ext
       apply zcd
       simp
      rw[e];exact aX.quiet j (.str _)
     all_goals
      obtain rfl:=bE h;simp only[binOp,Op.stringOp,Sem.run_pure,ByteArray.toList_mk];exact aX.quiet j (.bool _)
   | _=>exact d (by rintro⟨_,_,_,_,m,p⟩;cases m) (by rintro⟨_,_,m,p⟩;cases p)
 | _=>exact d (by rintro⟨_,_,_,_,m,p⟩;cases m) (by rintro⟨_,_,m,p⟩;cases m)
end
end Go.Ago
end
section
namespace Go.Ago
open List Nat
section
variable {P:Program} {E:Env} {G:eZ} {c:Ctx} {w:World} {H:aj} {nm:Nat}
theorem zap (d:aN G c w H){a:UnOp}{x:AV}{v:Value}(f:Rel c w x v){r:bo ⊕ AV}(h:(K5 a x).run H=some r):aX G c w H nm r ((Op.unary a v).run P w):=by
 cases f with
 | int k n =>
   cases a<;>(try exact(aF h).elim)
   . obtain rfl := bE h
     simp only[Op.unary,Op.intArith,Sem.run_pure,wr];exact aX.quiet d (.int _ _)
   . obtain rfl := bE h
     simp only[Op.unary];rw[toNat_and _ _ _ _ ag];exact aX.quiet d (.int _ _)
 | bool b =>
   cases a<;>(try exact(aF h).elim)
   obtain rfl:=bE h;simp only[Op.unary,Sem.run_pure];exact aX.quiet d (.bool _)
 | _=>cases a<;>exact(aF h).elim
theorem fold_push (b:List Int):∀a:Array UInt8,b.foldl (fun r n=>r.push (UInt8.ofNat n.toNat)) (⟨a⟩:ByteArray)=⟨a++(b.map fun n=>UInt8.ofNat n.toNat).toArray⟩:=by
 induction b<;>simp_all
theorem AG:∀{es:List (List AV)} {l:List UInt8},pJ es=some l->∃b:List Int,es=(b.map fun n=>[.int .u8 n])∧l=b.map fun n=>UInt8.ofNat n.toNat
 | [],l,h=>⟨[],rfl,by simp[pJ] at h;simp[h]⟩
 | e :: es, l, h => by
   unfold pJ at h;split at h
   . grind
   . rename_i n g f
     cases f;split at h
     . rename_i r d
       obtain⟨b,i,j⟩:=AG d;exact⟨n::b,by grind,by grind⟩
     grind
   grind
theorem v_ (Y:bZ P E)(N:aN G c w H){s d:TypeId}{ts:TI}{ds:TypeDesc}{x:AV}{v:Value}(S:E.ti s=some ts)(K:P.underlying s=some ds)(U:P.underlying d=some .string)(p:Rel c w x v){r:bo ⊕ AV}(h:(qJ E ts x).run H=some r) :
 aX G c w H nm r ((convert s d v).run P w):=by
 obtain⟨_,ds',_,_,A,_,_,_,s6,_⟩:=(Y.ti s ts S).ok;rw[K] at A;cases A;unfold qJ at h;split at h
 . rename_i e M
   rw[M] at s6;obtain rfl:ds = .slice e:=s6;obtain⟨te,O,h⟩:=cL h;obtain⟨_,de,_,_,Q,_,_,_,e6,_⟩:=(Y.ti e te O).ok;split at h
   . rename_i hk
     rw[hk] at e6;obtain rfl:de = .int .u8:=e6;have V:∀(a:Addr) (b f:Nat) (m:List Int),m.length=b->(∀j v,(m.map (Value.int .u8))[j]? = some v->w.cell? (a.add j)=some v)->
      (convert s d (.slice (some a) b f)).run P w = .ok (.string ⟨(m.map fun n=>UInt8.ofNat n.toNat).toArray⟩) w:=by
      intro a b f m y z;have t:=run_loadCells_list (P:=P) w a (m.map (Value.int .u8)) z;rw[zba,y] at t;simp only[convert,Sem.run_bind,run_underlying K,run_underlying U,run_underlying Q,Result.andThen_ok];rw[run_bytesToString w a b f m t];have:=fold_push m #[];rw[show(ByteArray.empty:ByteArray)=⟨#[]⟩ from rfl,this]
      simp
     have C:∀(g:List (List AV)) (a:Addr) (f:Nat) (M:(Rd.opt (kH g) lG).run H=some r) (z:∀(i:Nat) x,g[i]? = some [x]->∃v,w.cell? (a.add i)=some v∧Rel c w x v) (b:Nat) (y:g.length=b),
      aX G c w H nm r ((convert s d (.slice (some a) b f)).run P w):=by
      intro g a f M z b y;obtain⟨cs,t,J⟩:=nL M;unfold kH at t;split at t
      . rename_i l hb
        cases t;obtain rfl:=bE J;obtain⟨m,rfl,rfl⟩:=AG hb;rw [V a b f m bj (fun j v L=>by
         simp only[zbC,zcu] at L;obtain⟨n,hn,rfl⟩:=L;obtain⟨v,hv,R⟩:=z j (.int .u8 n) bj;cases R;exact hv)]
        exact aX.quiet N (.str _)
      . cases t
     cases p with
     | ai =>
       obtain rfl:=bE h;rw[show(convert s d (.slice none 0 0)).run P w = .ok (.string ⟨(([]:List UInt8)).toArray⟩) w by
        simp only[convert,Sem.run_bind,run_underlying K,run_underlying U,run_underlying Q,Result.andThen_ok,Conv.bytesToString,Sem.run_pure];rfl]
       exact aX.quiet N (.str _)
     | @ak _ _ T g f a vs F hi y z R =>
       obtain⟨u,h⟩:=cz h;have u:T=1:=by simpa using u
       subst u;refine C g a f h (fun i x p=>?_) g.length rfl
       have W:i<g.length:=(zbn.1 p).1;have:=z i 0 W aa;rw[Nat.mul_one,Nat.add_zero] at this;exact⟨_,this,(R i 0 [x] x p rfl).oJ⟩
     | fh T =>
       obtain⟨u,h⟩:=cz h;obtain rfl:=bE (H:=H) (e:=⟨.str [],[]⟩) h;rw[show(convert s d (.slice none 0 0)).run P w = .ok (.string ⟨(([]:List UInt8)).toArray⟩) w by
        simp only[convert,Sem.run_bind,run_underlying K,run_underlying U,run_underlying Q,Result.andThen_ok,Conv.bytesToString,Sem.run_pure];rfl]
       exact aX.quiet N (.str _)
     | @ay _ _ k i b T f B a hf hsB F I =>
       obtain⟨o,ho,h⟩:=lL h;cases o with
       | dJ _ _=>exact(aF h).elim
       | lp _ _ _ _ _=>exact(aF h).elim
       | mp _=>exact(aF h).elim
       | cm _ _=>exact(aF h).elim
       | arr sz' g =>
         obtain⟨u,X⟩:=cz h;clear h;simp only[zbe,zb1] at u;obtain⟨⟨rfl,rfl⟩,J⟩:=u;have J:=zbb J;have y:((g.drop i).take b).length=b:=by simp;omega
         refine C _ a f X (fun j x p=>?_) b y
         have L:j<b:=by have:=(zbn.1 p).1;omega
         obtain⟨rfl,_⟩:=I aa;rw[zcR,if_pos L,zcF] at p;obtain⟨v,v1,_,v2⟩:=N.cell ho hf p (j:=0) rfl;refine⟨v,?_,v2⟩;rw[add_plain,<-v1]
         grind
     | _=>exact(aF h).elim
   . exact(aF h).elim
 . exact(aF h).elim
theorem Sz (w:World)(b off n:Nat)(d:n≠0){arr:Array Value}{t:TypeId}(e:w.heap[b]? = some (.cells arr t (0,0))) :
 (w.freeze ⟨b,off,none⟩ n).heap[b]? = some (.cells arr t (off,off+n))∧(∀a,a≠b->(w.freeze ⟨b,off,none⟩ n).heap[a]? = w.heap[a]?)∧(w.freeze ⟨b,off,none⟩ n).heap.size=w.heap.size ∧
  (w.freeze ⟨b,off,none⟩ n).os=w.os∧(w.freeze ⟨b,off,none⟩ n).tape=w.tape∧(w.freeze ⟨b,off,none⟩ n).output=w.output:=by
 unfold World.freeze
 grind
theorem hand (A:aN G c w H){k i len cap:Nat}{es:List (List AV)}{B:fo}{a:Addr}(T:H.get k=some (.arr 1 es))(Q:c.f k=some B)(hl:0<len)(M:k+1<2 ^ 24)(_hsB:B.sz=1)(hlen:len≤cap)
 (N:0<cap->a=⟨B.b,B.s+i * 1,none⟩∧(i+cap) * 1≤B.n)(hle:i+len≤es.length){s e:TypeId}(s2:P.underlying s=some (.slice e))(e2:P.underlying e=some (.int .u8)){cs:List AV}
 (h1:kH ((es.drop i).take len)=some cs):aX G c w H nm (.inl ⟨.ak 1 ((es.drop i).take len),[(k,none)]⟩) ((convert s s (.slice (some a) len cap)).run P w):=by
 obtain⟨rfl,hB⟩:=N aa;obtain⟨F,z,X,J,t,L,hs,hsz0,hln,hc⟩:=A.obj k _ T;rw[Q] at z;cases z;have hbs:B.b<w.heap.size:=A.bW k B Q;obtain⟨f1,V,f3,f4,f5,f6⟩:=Sz w B.b J.size 1 aa L;have R:(convert s s (.slice (some ⟨B.b,B.s+i * 1,none⟩) len cap)).run P w = .ok (.slice (some ⟨B.b,B.s+i * 1,none⟩) len cap) (w.freeze ⟨B.b,J.size,none⟩ 1):=by
  simp only[convert,Sem.run_bind,run_underlying s2,run_underlying e2,Result.andThen_ok,beq_self_eq_true,markStringish,run_shape,World.shape?,L,run_freeze,Sem.run_pure]
 rw[R];have O:∃C:List Int,(es.drop i).take len=C.map fun n=>[AV.int .u8 n]:=by
  unfold kH at h1;split at h1
  . rename_i l m
    obtain⟨C,h2,_⟩:=AG m
    grind
  . cases h1
 obtain⟨C,K⟩:=O
 generalize hw':w.freeze ⟨B.b,J.size,none⟩ 1=U at f1 V f3 f4 f5 f6
 have u:((es.drop i).take len).length=len:=by simp;omega
 have r:c.le ⟨c.f,fun b=>c.aq b∨b=B.b⟩:=⟨fun _ _ h=>h,fun _ h => .inl h⟩
 have D:∀b,c.aq b->U.heap[b]? = w.heap[b]?:=fun b L=>V b (fun e=>X (e ▸ L))
 have y:∀{x:AV} {v:Value},Rel c w x v->Rel ⟨c.f,fun b=>c.aq b∨b=B.b⟩ U x v:=fun hr=>hr.mono r D
 have d:∀j o,(H.set 24 k none).get j=some o->j≠k∧H.get j=some o:=by
  intro j o e;rw[Tr.eQ 24 k _ H j M] at e
  by_cases Y:j=k
  . grind
  . grind
 refine⟨.slice (some ⟨B.b,B.s+i * 1,none⟩) len cap,U,⟨c.f,fun b=>c.aq b∨b=B.b⟩,rfl,?_,?_,?_,fun _ _=>rfl⟩
 . refine ⟨r, f4, f5, f6, aa, fun b m Z => V b (fun e => Z ⟨k, _, B, T, Q, e.symm⟩), fun b m => m.imp id fun e => .inl ⟨k, _, B, T, Q, e.symm⟩, ?_⟩
   rintro b ⟨I,o,F,p,z,rfl⟩
   exact .inl ⟨I,o,F,(d I o p).2,z,rfl⟩
 . refine ⟨fun b m => by rw [f3]; exact m.elim (A.bN b) (fun e => aa), fun I F h => by rw [f3]; exact A.bW I F h, fun I o p => ?_, fun k1 k2 o o' B1 B2 e1 e2 => A.inj k1 k2 o o' B1 B2 (d k1 o e1).2 (d k2 o' e2).2, fun g cs e => y (A.bS g cs e)⟩
   obtain⟨cF,p⟩:=d I o p;obtain⟨F,g1,g2,g3⟩:=A.obj I o p;have S:F.b≠B.b:=fun e=>cF (A.inj I k o _ F B p T g1 Q e)
   exact⟨F,g1,fun h=>h.elim g2 S,g3.mono (V _ S) y (fun b L=>⟨r.aq b L,D b L⟩)⟩
 . have hr:=Rel.ak (c:=⟨c.f,fun b=>c.aq b∨b=B.b⟩) (w:=U) (sz:=1) (es:=(es.drop i).take len) (cap:=cap) (a:=⟨B.b,B.s+i * 1,none⟩) (fun j _ => .int .u8 (C.getD j 0)) aa (fun _ => .inr rfl)
    (fun j e W=>by grind)
    (fun j q Y hq=>by
      obtain rfl:q=0:=aa;rw[u] at Y;have hnl:j<C.length:=by have:=zbc length K;rw[u,zba] at this;omega
      have hx:es[i+j]? = some [AV.int .u8 (C.getD j 0)]:=by
       have h2:((es.drop i).take len)[j]? = some [AV.int .u8 (C.getD j 0)]:=by rw[K];simp[hnl]
       rwa [zcR,if_pos Y,zcF] at h2
      obtain⟨v,v1,v2⟩:=(hc (i+j) _ hx).2 0 _ rfl;cases v2;rw[add_plain];simp only[World.cell?,f1]
      grind)
    (fun j q e x W hx=>by
      rw[K,zbC] at W;cases h:C[j]? with
      | none=>grind
      | some n =>
        rw[h] at W;cases W;cases q with
        | zero =>
          cases hx;simp only[getD,h,zcb];exact .int _ _
        | succ q=>grind)
   grind
theorem QZ (K:bZ P E)(q:aN G c w H){s d:TypeId}{x:AV}{v:Value}(N:Rel c w x v){r:bo ⊕ AV}(h:(sT E s d x).run H=some r):aX G c w H nm r ((convert s d v).run P w):=by
 obtain⟨ts,A,h⟩:=cL h;obtain⟨td,htd,h⟩:=cL h;obtain⟨_,ds,_,_,J,_⟩:=(K.ti s ts A).ok;obtain⟨_,dd,_,_,C,_,_,_,M,_⟩:=(K.ti d td htd).ok;cases m:td.desc with
 | int k =>
   rw[m] at h M;obtain rfl:dd = .int k:=M;cases N with
   | int k' n =>
     obtain rfl:=bE h;simp only[convert,Sem.run_bind,run_underlying J,run_underlying C,Result.andThen_ok,Conv.intToInt,Sem.run_pure,wr];exact aX.quiet q (.int _ _)
   | _=>exact(aF h).elim
 | string =>
   rw[m] at h M;obtain rfl:dd = .string:=M;cases N with
   | str l =>
     obtain rfl:=bE h;simp only[convert,Sem.run_bind,run_underlying J,run_underlying C,Result.andThen_ok,Sem.run_pure];exact aX.quiet q (.str _)
   | int k n =>
     obtain rfl:=bE h;rw[run_convert_int_string w s d k n bj C];exact aX.quiet q (by simpa using Rel.str (c:=c) (w:=w) (Utf8.encode n).data.toList)
   | ai=>exact v_ K q A J C .ai h
   | ak vs u hi V hc hr=>exact v_ K q A J C (.ak vs u hi V hc hr) h
   | fh sz=>exact v_ K q A J C (.fh sz) h
   | ay h1 h2 h3 h4 h5=>exact v_ K q A J C (.ay h1 h2 h3 h4 h5) h
   | _=>exact(aF h).elim
 | slice e =>
   rw[m] at h M;obtain rfl:dd = .slice e:=M;cases N with
   | str l =>
     obtain⟨S,L,h⟩:=cL h;obtain⟨_,de,_,_,e2,_,_,_,Q,_⟩:=(K.ti e S L).ok;have hde:de = .int .u8∧r = .inl ⟨.ak 1 (l.map fun b=>[.int .u8 b.toNat]),[]⟩:=by
      cases T:S.desc with
      | int k =>
        rw[T] at h Q;cases k<;>first|exact⟨Q,bE h⟩|exact(aF h).elim
      | _=>rw[T] at h;exact(aF h).elim
     obtain⟨rfl,rfl⟩:=hde;have F:∀b,b<w.heap.size->(Lib.bytesWorld w e ⟨l.toArray⟩).heap[b]? = w.heap[b]?:=fun b hb=>Lib.bytesWorld_at_old w e _ b hb
     have R:=Lib.bytesWorld_size w e ⟨l.toArray⟩;refine⟨_,_,⟨c.f,fun b=>c.aq b∨b=w.heap.size⟩,Lib.run_convert_string_bytes w s d e ⟨l.toArray⟩ J C e2,?_⟩
     have I:c.le ⟨c.f,fun b=>c.aq b∨b=w.heap.size⟩:=⟨fun _ _ h=>h,fun _ h => .inl h⟩
     have y:∀{x:AV} {v:Value},Rel c w x v->Rel ⟨c.f,fun b=>c.aq b∨b=w.heap.size⟩ (Lib.bytesWorld w e ⟨l.toArray⟩) x v:=fun hr=>hr.mono I (fun b hb=>F b (q.bN b hb))
     refine⟨⟨I,rfl,rfl,rfl,aa,fun b hb _=>F b hb,fun b hb=>hb.imp id fun h => .inr aa,fun b hb => .inl hb⟩,
      ⟨fun b hb => by rw [R]; rcases hb with hb | rfl
                      . exact lt_succ_of_lt (q.bN b hb)
                      simp,fun k B h=>by rw[R];exact lt_succ_of_lt (q.bW k B h),fun k o e=>?_,q.inj,fun g cs e=>y (q.bS g cs e)⟩,?_,fun _ _=>rfl⟩
     . obtain ⟨B, g1, g2, g3⟩ := q.obj k o e
       have hB:=q.bW k B g1;exact⟨B,g1,fun h=>h.elim g2 (fun h=>aa),g3.mono (F _ hB) y (fun b hb=>⟨.inl hb,F b (q.bN b hb)⟩)⟩
     . have t : (⟨l.toArray⟩ : ByteArray).size ≤ grownCap w (⟨l.toArray⟩ : ByteArray).size 0 e := grownCap_ge _ _ _ _
       have V:(⟨l.toArray⟩:ByteArray).size=(l.map fun b=>([.int .u8 b.toNat]:List AV)).length:=by simp[ByteArray.size]
       rw[V] at t ⊢;refine .ak (fun i _ => .int .u8 (l.getD i 0).toNat) t (fun _ => .inr rfl) (fun i e he=>?_) (fun i j hi hj=>?_) (fun i j e x he N=>?_)
       . grind
       . have : j = 0 := aa
         subst this;simp only[zba] at hi;have:=Lib.bytesWorld_cell w e ⟨l.toArray⟩ i bj;have ha:((⟨w.heap.size,0,none⟩:Addr).add (i * 1+0))=⟨w.heap.size,i,none⟩:=by
          by_cases h0:i=0<;>simp[Addr.add,h0]
         grind
       . rw [zbC] at he
         cases h:l[i]? with
         | none=>grind
         | some b =>
           rw[h] at he;cases he;cases j with
           | zero =>
             cases N;simp only[getD,h,zcb];exact .int _ _
           | succ j=>grind
   | @ay _ _ k i len sz cap B a hf hsB u t =>
     obtain⟨S,L,h⟩:=cL h;obtain⟨_,de,_,_,e2,_,_,_,Q,_⟩:=(K.ti e S L).ok;cases T:S.desc with
     | int k' =>
       rw[T] at h Q;obtain rfl:de = .int k':=Q;cases k'<;>first|exact(aF h).elim|skip
       obtain⟨hq,h⟩:=cz h;obtain⟨o,ho,h⟩:=lL h;cases o with
       | dJ _ _=>exact(aF h).elim
       | lp _ _ _ _ _=>exact(aF h).elim
       | mp _=>exact(aF h).elim
       | cm _ _=>exact(aF h).elim
       | arr sz' es =>
         obtain⟨U,h⟩:=cz h;obtain⟨cs,h1,h⟩:=nL h;obtain rfl:=bE h;simp only[zbe,zb1] at hq U;obtain⟨⟨rfl,V⟩,O⟩:=hq;rw[C] at J;cases J;obtain⟨⟨rfl,rfl⟩,I⟩:=U;exact hand q ho hf (by simp_all) (by have:=zbb O;omega) hsB u t (zbb I) C e2 h1
     | _=>rw[T] at h;exact(aF h).elim
   | _=>exact(aF h).elim
 | _=>rw[m] at h;cases N<;>exact(aF h).elim
theorem LW {d:TypeDesc}{t:TD}(h:rm P d t)(b:t≠.iface):∀a,d≠.interface a:=by
 intro a e;cases t<;>simp_all[rm]
theorem Tm (l:bZ P E)(o:aN G c w H){t:TypeId}{x:AV}{v:Value}(n:Rel c w x v){r:bo ⊕ AV}(h:(KX E t x).run H=some r):aX G c w H nm r ((Instr.makeInterface t v).run P w):=by
 obtain⟨i,j,h⟩:=cL h;obtain⟨d,s,m,g⟩:=jW (l.ti t i j);have f:i.desc≠.iface:=by intro e;rw[e] at h;exact(aF h).elim
 have p:=LW g f;have q:=by
  cases a:i.desc<;>rw[a] at h<;>first|exact absurd a f|exact bE h
 subst q;have:(Instr.makeInterface t v).run P w = .ok (.iface t v) w:=by
  simp only[Instr.makeInterface,Sem.run_bind,s,Result.andThen_ok];rfl
 rw[this];exact aX.quiet o (.cG t n)
theorem OF (J:bZ P E)(q:aN G c w H){t s:TypeId}{x:AV}{v:Value}{g:Bool}(K:Rel c w x v){r:bo ⊕ AV}(h:(KP E x t g).run H=some r) :
 aX G c w H nm r ((Instr.typeAssert v s t g).run P w):=by
 obtain⟨i,C,h⟩:=cL h;have I:=J.ti t i C;obtain⟨d,D,hd',A⟩:=jW I;have l:i.desc≠.iface:=by intro e;rw[e] at h;exact(aF h).elim
 have B:=LW A l;obtain⟨z,hz,_,_,_,n⟩:=Du I w;have j:∀{y u} (b:Bool),Rel c w y u->Rel c w (.ao [y,.bool b]) (.tuple #[u,.bool b]):=fun b p=>
  Rel.ao (vs:=[_,.bool b]) rfl (aP.cons p (.cons (.bool b) .nil)).2
 cases K with
 | @cG _ _ m y u p =>
   have k : (match m == t,g with
    | true,true=>Rd.ret ⟨.ao [y,.bool true],[]⟩
    | true,false => .ret ⟨y,[]⟩
    | false,true => .ret ⟨.ao [match i.agg with|true => .agg i.zero|false=>i.zero.headD .any,.bool false],[]⟩
    | false,false => .fail).run H=some r:=by
    cases a:i.desc<;>rw[a] at h<;>first|exact absurd a l|exact h
   have hu:∀(g:Bool),(Instr.typeAssert (.iface m u) s t g).run P w=if m=t then .ok (if g then .tuple #[u,.bool true] else u) w else
    (if g then .ok (.tuple #[z,.bool false]) w else (Instr.typeAssert (.iface m u) s t g).run P w):=by
    intro g
    by_cases e:m=t
    . subst e
      simp only[Instr.typeAssert,Sem.run_bind,D,Result.andThen_ok];rfl
    . simp only [e, zb8]
      cases g with
      | false=>rfl
      | true =>
        simp only[Instr.typeAssert,Sem.run_bind,D,Result.andThen_ok]
        simp_all
   rw[hu]
   by_cases e:m=t
   . subst e
     simp only[beq_self_eq_true] at k;simp only[if_true];cases g<;>(dsimp only at k;obtain rfl:=bE k)
     . exact aX.quiet q p
     . exact aX.quiet q (j true p)
   . have : (m == t) = false := by simpa using e
     rw[this] at k;simp only[e,zb8];cases g<;>dsimp only at k
     . exact(aF k).elim
     . obtain rfl := bE k
       exact aX.quiet q (j false (n c w))
 | eI =>
   have k : (match g with
    | true=>Rd.ret ⟨.ao [match i.agg with|true => .agg i.zero|false=>i.zero.headD .any,.bool false],[]⟩
    | false => .fail).run H=some r:=by
    cases a:i.desc<;>rw[a] at h<;>first|exact absurd a l|exact h
   cases g with
   | false=>exact(aF k).elim
   | true =>
     obtain rfl:=bE k;have:(Instr.typeAssert .nilIface s t true).run P w = .ok (.tuple #[z,.bool false]) w:=by
      simp only[Instr.typeAssert,Sem.run_bind,D,Result.andThen_ok];cases d<;>first|exact absurd rfl (B _)|simp[hz]
     rw[this];exact aX.quiet q (j false (n c w))
 | _ =>
   exfalso
   cases a:i.desc<;>rw[a] at h<;>exact aF h
theorem RU (e:aN G c w H){x:AV}{v:Value}{i:Nat}(b:Rel c w x v){r:bo ⊕ AV}(h:(yO x i).run H=some r):aX G c w H nm r ((Instr.extract v i).run P w):=by
 cases b with
 | @ao _ _ g m k j =>
   simp only[yO] at h;cases b:g[i]? with
   | none=>rw[b] at h;exact(aF h).elim
   | some y =>
     rw[b] at h;obtain rfl:=bE h;obtain⟨u,l,d⟩:=aP.get ⟨k,j⟩ b;simp only[Instr.extract,zbR,l,Sem.run_pure];exact aX.quiet e d
 | _=>exact(aF h).elim
theorem Vb (hE:bZ P E)(i:aN G c w H){t ty:TypeId}{x:AV}{v:Value}(k:Rel c w x v){r:bo ⊕ AV}(h:(KY E t x).run H=some r) :
 aX G c w H nm r ((Builtin.len_ #[t] ty #[v]).run P w):=by
 obtain⟨ti,j,h⟩:=cL h;obtain⟨d,g,hd',b⟩:=jW (hE.ti t ti j);cases a:ti.desc with
 | string =>
   rw[a] at h b;obtain rfl:d = .string:=b;cases k with
   | str l =>
     obtain rfl:=bE h;have hsz:(⟨l.toArray⟩:ByteArray).size=l.length:=by simp[ByteArray.size]
     simp only[Builtin.len_,Sem.run_bind,g,Result.andThen_ok,Sem.run_pure,goInt,zbR,zb3,hsz];exact aX.quiet i (.int _ _)
   | _=>exact(aF h).elim
 | array n e =>
   rw[a] at h b;obtain rfl:d = .array n e:=b;obtain rfl:=bE h;simp only[Builtin.len_,Sem.run_bind,g,Result.andThen_ok,Sem.run_pure,goInt,zbR,zb3];exact aX.quiet i (.int _ _)
 | slice e =>
   rw[a] at h b;obtain rfl:d = .slice e:=b;cases k<;>(try exact(aF h).elim)<;>
    (obtain rfl := bE h
     simp only[Builtin.len_,Sem.run_bind,g,Result.andThen_ok,Sem.run_pure,goInt,zbR,zb3];exact aX.quiet i (.int _ _))
 | _=>rw[a] at h;cases k<;>exact(aF h).elim
theorem G8 (mx:Bool):∀(xs:List AV) (vs:List Value) (x:AV) (v:Value) (y:AV),aP c w xs vs->Rel c w x v->qm mx x xs=some y->
 (∃k n,x = .int k n)->∃u,(vs.foldlM (if mx then Builtin.max2 else Builtin.min2) v).run P w = .ok u w∧Rel c w y u
 | [], vs, x, v, y, e, g, h, _ => by
   obtain rfl:=e.fX;simp only[qm,zbg] at h
   simp_all
 | z :: xs, vs, x, v, y, e, g, h, ⟨k, n, f⟩ => by
   subst f;obtain⟨u,m,rfl,i,d⟩:=e.dP;cases g;cases i with
   | int p b =>
     simp only[qm] at h;have o:=G8 mx xs m _ _ y d (.int _ _) h ⟨_,_,rfl⟩;obtain⟨u,q,j⟩:=o;refine⟨u,?_,j⟩;rw[foldlM_cons];cases mx
     . assumption
     assumption
   | _=>simp[qm] at h
theorem IN (g:aN G c w H){mx:Bool}{ts:Array TypeId}{ty:TypeId}{xs:List AV}{vs:List Value}(j:aP c w xs vs){r:bo ⊕ AV}(h:(yT mx xs).run H=some r) :
 aX G c w H nm r ((if mx then Builtin.max_ ts ty vs.toArray else Builtin.min_ ts ty vs.toArray).run P w):=by
 cases xs with
 | nil=>exact(aF h).elim
 | cons x xs =>
   obtain⟨v,b,rfl,i,a⟩:=j.dP;cases i<;>(try exact(aF h).elim)
   simp only[yT] at h;rename_i k n;cases d:qm mx (.int k n) xs with
   | none=>rw[d] at h;exact(aF h).elim
   | some y =>
     rw[d] at h;obtain rfl:=bE h;obtain⟨u,m,o⟩:=G8 (P:=P) mx xs b _ _ y a (.int k n) d ⟨_,_,rfl⟩;have:(if mx then Builtin.max_ ts ty (Value.int k n::b).toArray else Builtin.min_ ts ty (Value.int k n::b).toArray).run P w = .ok u w:=by
      cases mx<;>simpa[Builtin.max_,Builtin.min_] using m
     rw[this];exact aX.quiet g o
end
end Go.Ago
end
