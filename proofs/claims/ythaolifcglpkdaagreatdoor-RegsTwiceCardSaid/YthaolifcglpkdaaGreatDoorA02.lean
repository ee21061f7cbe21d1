/-
  Part A02: lemmas, each with its own conditions.
-/
import Derived.Laws.CopyRow
import Derived.Laws.Cells
import Derived.Laws.Entries
import Derived.Laws.NewBlocks
import Derived.Test.YthaolifcglpkdaaGreatDoorA01
set_option maxRecDepth 100000
set_option maxHeartbeats 0
set_option linter.all false
section
namespace Go.Ago
open List Nat
def iQ (R:AV->Value->Prop)(es:List (Int×AV))(a:List MapEntry):Prop:=
 ∃f:Int->MapEntry,(∀k x,(k,x)∈es->f k∈a∧(f k).key = .int .i64 k)∧(∀e∈a,∃k x,(k,x)∈es∧e=f k)∧∀k x,(k,x)∈es->R x (f k).val
theorem iQ.mono {R R':AV->Value->Prop}{es:List (Int×AV)}{a:List MapEntry}(c:∀x v,R x v->R' x v)(h:iQ R es a):iQ R' es a:=by
 obtain⟨f,d,g,b⟩:=h;exact⟨f,d,g,fun k x e=>c _ _ (b k x e)⟩
def fH (c:Ctx)(w:World)(B:fp):an->Prop
 | .arr p f=>∃h t,w.heap[B.b]? = some (.cells h t (0,0))∧B.s+B.n≤h.size∧B.sz=p∧f.length * p≤B.n ∧
  ∀(i:Nat) e,f[i]? = some e->e.length=p∧∀(j:Nat) x,e[j]? = some x->∃v,h[B.s+(i * p+j)]? = some v∧Rel c w x v
 | .dG s q=>w.heap[B.b]? = some (.stringIter ⟨s.toArray⟩ q)∧B.s=0∧B.sz=0
 | .lp z m A u o=>∃r g,w.heap[B.b]? = some (.loop r)∧r.state=z∧r.pending=m∧r.tmps.size=u∧o = .rangeFunc g r.params r.assign r.body∧∀t x,(t,x)∈A->∃v,r.tmps[t]? = some v∧Rel c w x v
 | .mp f=>(B.s=0∧B.sz=0)∧∃d a,w.heap[B.b]? = some (.map d a)∧pA d a∧cu f∧iQ (Rel c w) f d.toList
 | .cm y f=>(B.s=0∧B.sz=0)∧∃r d a seen,w.heap[B.b]? = some (.mapIter (some r) a seen a)∧c.au r∧w.heap[r]? = some (.map d a)∧pA d a∧cu f∧iQ (Rel c.bare w) f (d.toList.filter fun e=>!seen.contains e.born) ∧
  ∀k x,y=some (k,x)->∃(l:Array Nat) (e:MapEntry),seen=l.push e.born∧e∈d.toList∧e.key = .int .i64 k∧Rel c.bare w x e.val
theorem fH.mono {c c':Ctx}{w w':World}{B:fp}{o:an}(h:fH c w B o)(d:w'.heap[B.b]? = w.heap[B.b]?)(J:∀{x v},Rel c w x v->Rel c' w' x v)(z:∀b,c.au b->c'.au b∧w'.heap[b]? = w.heap[b]?):fH c' w' B o:=by
 cases o with
 | arr P D =>
   obtain⟨arr,t,n,f,m,l,u⟩:=h;exact⟨arr,t,d.trans n,f,m,l,fun i e M=>⟨(u i e M).1,fun j x R=>by grind⟩⟩
 | dG s I=>exact⟨d.trans h.1,h.2⟩
 | lp T C Q K E =>
   obtain⟨r,g,n,f,m,l,u,F⟩:=h;exact⟨r,g,d.trans n,f,m,l,u,fun t x V=>by grind⟩
 | mp D =>
   obtain⟨A,p,a,n,f,m,l⟩:=h;exact⟨A,p,a,d.trans n,f,m,l.mono fun _ _ h=>J h⟩
 | cm L D =>
   obtain⟨A,r,p,a,seen,n,f,m,l,u,F,U⟩:=h;have q:∀x v,Rel c.bare w x v->Rel c'.bare w' x v:=fun _ _ h=>h.mono ⟨fun _ _ h=>(by cases h),fun b d=>(z b d).1⟩ fun b d=>(z b d).2
   exact⟨A,r,p,a,seen,d.trans n,(z r f).1,(z r f).2.trans m,l,u,F.mono q,fun k x N=>by
    grind⟩
def Own (c:Ctx)(H:ai)(b:Nat):Prop:=∃k o B,H.get k=some o∧c.f k=some B∧B.b=b
abbrev eZ:=Nat->Option (List AV)
structure aN (G:eZ)(c:Ctx)(w:World)(H:ai):Prop where
 bH:∀b,c.au b->b<w.heap.size
 bX:∀k B,c.f k=some B->B.b<w.heap.size
 obj:∀k o,H.get k=some o->∃B,c.f k=some B∧¬c.au B.b∧fH c w B o
 inj:∀k k' o o' B B',H.get k=some o->H.get k'=some o'->c.f k=some B->c.f k'=some B'->B.b=B'.b->k=k'
 bR:∀g cs,G g=some cs->Rel c w (.bq cs) (.pointer (some ⟨g,0,none⟩))
structure Ext (c:Ctx)(w:World)(H:ai)(c':Ctx)(w':World)(H':ai):Prop where
 le:c.le c'
 os:w'.os=w.os
 tape:w'.tape=w.tape
 output:w'.output=w.output
 size:w.heap.size≤w'.heap.size
 other:∀b,b<w.heap.size->¬Own c H b->w'.heap[b]? = w.heap[b]?
 eG:∀b,c'.au b->c.au b∨Own c H b∨w.heap.size≤b
 own:∀b,Own c' H' b->Own c H b∨w.heap.size≤b
section
variable {G:eZ} {c c' c'':Ctx} {w w' w'':World} {H H' H'':ai}
theorem Ext.refl (c:Ctx)(w:World)(H:ai):Ext c w H c w H:=
 ⟨.refl c,rfl,rfl,rfl,Nat.le_refl _,fun _ _ _=>rfl,fun _ h => .inl h,fun _ h => .inl h⟩
theorem Ext.trans (h:Ext c w H c' w' H')(d:Ext c' w' H' c'' w'' H''):Ext c w H c'' w'' H'':={
 le:=h.le.trans d.le
 os:=d.os.trans h.os
 tape:=d.tape.trans h.tape
 output:=d.output.trans h.output
 size:=Nat.le_trans h.size d.size
 other b e l := (d.other b (Nat.lt_of_lt_of_le e h.size) (fun k=>by
  rcases h.own b k with a|a<;>grind)).trans (h.other b e l)
 eG b e:=by
  rcases d.eG b e with a|a|a
  . exact h.eG b a
  . rcases h.own b a with j | j
    . grind
    omega
  exact .inr (.inr (Nat.le_trans h.size a))
 own b e:=by
  rcases d.own b e with a|a
  . exact h.own b a
  exact .inr (Nat.le_trans h.size a) }
theorem aN.kO (h:aN G c w H){b:Nat}(i:c.au b):¬Own c H b:=by
 rintro⟨k,o,B,d,f,rfl⟩
 obtain⟨g,a,e,_⟩:=h.obj k o d
 grind
theorem Ext.au (h:Ext c w H c' w' H')(d:aN G c w H):∀b,c.au b->w'.heap[b]? = w.heap[b]?:=
 fun b a=>h.other b (d.bH b a) (d.kO a)
theorem Ext.rel (h:Ext c w H c' w' H')(b:aN G c w H){x:AV}{v:Value}(a:Rel c w x v):Rel c' w' x v:=a.mono h.le (h.au b)
theorem Ext.drew (h:Ext c w H c' w' H'):Ext c w H c' w'.drew H':=⟨h.le,h.os,h.tape,h.output,h.size,h.other,h.eG,h.own⟩
theorem Rel.drew {x:AV}{v:Value}(h:Rel c w x v):Rel c w.drew x v:=h.mono (.refl c) (fun _ _=>rfl)
theorem aN.drew (h:aN G c w H):aN G c w.drew H:=
 ⟨h.bH,h.bX,fun k o e=>by
  obtain⟨B,b,d,a⟩:=h.obj k o e;exact⟨B,b,d,a.mono rfl (fun f=>f.drew) (fun _ i=>⟨i,rfl⟩)⟩,
  h.inj,fun g j e=>(h.bR g _ e).drew⟩
theorem Ext.yg (c:Ctx)(w:World)(H:ai):Ext c w H c w.drew H:=(Ext.refl c w H).drew
theorem aN.congr (h:aN G c w H)(f:∀j,H'.get j=H.get j):aN G c w H':=
 ⟨h.bH,h.bX,fun k o e=>h.obj k o aY,fun k d o a B g e b=>h.inj k _ o a B _ aY aY,h.bR⟩
theorem Own.congr (e:∀j,H'.get j=H.get j){b:Nat}(h:Own c H b):Own c H' b:=by
 obtain⟨k,o,B,f,a,d⟩:=h;exact⟨k,o,B,by grind,a,d⟩
theorem Ext.congr {K K':ai}(h:Ext c w H c' w' H')(d:∀j,K.get j=H.get j)(e:∀j,K'.get j=H'.get j):Ext c w K c' w' K':=
 ⟨h.le,h.os,h.tape,h.output,h.size,fun b a g=>h.other b a (fun f=>g (f.congr d)),fun b a=>(h.eG b a).imp id (Or.imp (Own.congr d) id),fun b a=>(h.own b (Own.congr (fun j=>(e j).symm) a)).imp (Own.congr d) id⟩
theorem aN.cell (h:aN G c w H){k sz:Nat}{es:List (List AV)}{B:fp}(o:H.get k=some (.arr sz es))(m:c.f k=some B){i j:Nat}{e:List AV}{x:AV}(l:es[i]? = some e)(n:e[j]? = some x) :
 ∃v,w.cell? ⟨B.b,B.s+(i * sz+j),none⟩=some v∧w.frozen? ⟨B.b,B.s+(i * sz+j),none⟩=false∧Rel c w x v:=by
 obtain⟨y,a,C,p,t,d,A,r,z,q⟩:=h.obj k _ o;rw[m] at *;cases a;obtain⟨v,u,g⟩:=(q i e l).2 j x n;exact⟨v,by simp[World.cell?,d,u],by simp[World.frozen?,d],g⟩
theorem aN.sz (h:aN G c w H){k sz:Nat}{es:List (List AV)}{B:fp}(d:H.get k=some (.arr sz es))(j:c.f k=some B) :
 B.sz=sz∧es.length * sz≤B.n∧∀(i:Nat) e,es[i]? = some e->e.length=sz:=by
 obtain⟨q,b,l,a,t,o,p,g,r,m⟩:=h.obj k _ d
 grind
theorem add_plain (b o n:Nat):(⟨b,o,none⟩:Addr).add n=⟨b,o+n,none⟩:=by
 unfold Addr.add;simp
theorem vG (a:Addr)(i j:Nat):(a.add i).add j=a.add (i+j):=by
 unfold Addr.add
 grind
theorem IZ {c:Ctx}{w:World}:∀{cs:List AV} (f:Nat->Value),(∀(i:Nat) x,cs[i]? = some x->Rel c w x (f i))->aQ c w cs ((List.range cs.length).map f)
 | cs, f, h => ⟨ag, fun i x v e a => by
   grind⟩
theorem aN.loadCells (h:aN G c w H)(P:Program){k sz:Nat}{es:List (List AV)}{B:fp}(p:H.get k=some (.arr sz es))(l:c.f k=some B){i:Nat}{e:List AV}(m:es[i]? = some e)
 (off n:Nat)(t:off+n≤e.length) :
 ∃vs:List Value,(Go.loadCells ⟨B.b,B.s+(i * sz+off),none⟩ n).run P w = .ok vs.toArray w∧aQ c w ((e.drop off).take n) vs:=by
 have u:((e.drop off).take n).length=n:=by simp;omega
 have a:∀j:Nat,∃v,j<n->w.cell? ((⟨B.b,B.s+(i * sz+off),none⟩:Addr).add j)=some v∧∀x,((e.drop off).take n)[j]? = some x->Rel c w x v:=by
  intro j
  by_cases g:j<n
  . have o : e[off + j]? = some e[off + j] := getElem?_eq_getElem aa
    obtain⟨v,q,_,y⟩:=h.cell p l m o;refine⟨v,fun _=>⟨by rw[add_plain,Nat.add_assoc,Nat.add_assoc];exact q,fun x r=>?_⟩⟩
    grind
  . exact⟨undef,fun h=>absurd h g⟩
 let f:Nat->Value:=fun i=>(a i).choose
 have d:∀j,j<n->w.cell? ((⟨B.b,B.s+(i * sz+off),none⟩:Addr).add j)=some (f j)∧∀x,((e.drop off).take n)[j]? = some x->Rel c w x (f j):=fun i=>(a i).choose_spec
 refine⟨(List.range n).map f,run_loadCells w _ n f fun j g=>(d j g).1,?_⟩
 have := IZ (c := c) (w := w) (cs := (e.drop off).take n) f (fun i x r=>by
  grind)
 grind
theorem UW (P:Program){cs:List AV}{a:Addr}{vs:List Value}(d:cs.length=vs.length)(f:∀(i:Nat) v,vs[i]? = some v->w.cell? (a.add i)=some v)
 (b:∀(i:Nat) x v,cs[i]? = some x->vs[i]? = some v->Rel c w x v)(n:Nat)(h:n≤cs.length) :
 (Go.loadCells a n).run P w = .ok (vs.take n).toArray w∧aQ c w (cs.take n) (vs.take n):=by
 refine⟨?_,(aQ.take ⟨d,b⟩ n)⟩;have := run_loadCells_list (P := P) w a (vs.take n) (fun j v e=>by
  grind)
 grind
def lN (cs:List AV)(off:Nat)(vs:List AV):List AV:=cs.take off++vs++cs.drop (off+vs.length)
theorem Dv (cs vs:List AV)(off i:Nat)(h:off+vs.length≤cs.length) :
 (lN cs off vs)[i]? = if i<off then cs[i]? else if i<off+vs.length then vs[i - off]? else cs[i]?:=by
 unfold lN
 grind
theorem Lb (cs vs:List AV)(off:Nat)(h:off+vs.length≤cs.length):(lN cs off vs).length=cs.length:=by
 unfold lN;grind
theorem aN.store (h:aN G c w H){k sz:Nat}{es es':List (List AV)}{B:fp}(hk:H.get k=some (.arr sz es))(R:c.f k=some B)(A:k+1<2 ^ 24)
 (off:Nat){vs:List Value}{xs:List AV}(hx:aQ c w xs vs)(S:∀x∈xs,x.one=true)(hn:off+xs.length≤B.n)
 (T:es'.length * sz≤B.n)(U:∀(i:Nat) e,es'[i]? = some e->e.length=sz)
 (V:∀(i j:Nat) e x,es'[i]? = some e->e[j]? = some x->(i * sz+j<off∧∃D,es[i]? = some D∧D[j]? = some x)∨(off≤i * sz+j∧i * sz+j<off+xs.length∧xs[i * sz+j - off]? = some x) ∨
   (off+xs.length≤i * sz+j∧∃D,es[i]? = some D∧D[j]? = some x))(P:Program) :
 ∃w',(storeCells ⟨B.b,B.s+off,none⟩ vs).run P w = .ok () w'∧Ext c w H c w' (H.set 24 k (some (.arr sz es')))∧aN G c w' (H.set 24 k (some (.arr sz es'))):=by
 obtain⟨E,d,hi,m,t,X,hs,Q,hl,hc⟩:=h.obj k _ hk;rw[R] at d;cases d;have hvl:vs.length=xs.length:=hx.1.symm;have h1:∀v∈vs,v.oneCell'=true:=by
  intro v hv;obtain⟨i,L,rfl⟩:=getElem_of_mem hv;have hxi:xs[i]? = some (xs[i]'aa):=getElem?_eq_getElem aa;have F:=hx.2 i _ _ hxi (getElem?_eq_getElem L);have ho:=F.Wf (S _ (getElem_mem _));cases hv':vs[i]<;>simp_all[Value.oneCell']
 have hbs:B.b<w.heap.size:=h.bX k B R;have u:=run_storeCells_at (P:=P) B.b (B.s+off) t vs 0 m w X aa h1;simp only[Nat.add_zero] at u;have y:=setRow_heap w B.b m ((m.toList.take (B.s+off)++vs++m.toList.drop (B.s+off+vs.length)).toArray) t (0,0) X
 generalize r:w.setRow B.b ((m.toList.take (B.s+off)++vs++m.toList.drop (B.s+off+vs.length)).toArray)=w' at u y
 have W:w'.heap.size=w.heap.size:=by subst r;simp[World.setRow]
 have I:∀b,b≠B.b->w'.heap[b]? = w.heap[b]?:=by
  intro b K;subst r;simp[World.setRow,Array.getElem?_modify,Ne.symm K]
 have hos:w'.os=w.os:=by subst r;rfl
 have M:w'.tape=w.tape:=by subst r;rfl
 have Y:w'.output=w.output:=by subst r;rfl
 have Z:∀b,Own c (H.set 24 k (some (.arr sz es'))) b->Own c H b:=by
  rintro b ⟨z,o,E,a,d,rfl⟩
  rw[Tr.eP 24 k _ H z A] at a
  by_cases e:z=k
  . subst e;exact⟨z,_,E,hk,d,rfl⟩
  . rw[if_neg e] at a;exact⟨z,o,E,a,d,rfl⟩
 have p:Ext c w H c w' (H.set 24 k (some (.arr sz es'))):=
  ⟨.refl c,hos,M,Y,aa,fun b q hno=>I b (fun e=>hno ⟨k,_,B,hk,R,e.symm⟩),fun b q => .inl q,fun b q => .inl (Z b q)⟩
 have l:∀{x v},Rel c w x v->Rel c w' x v:=fun F=>p.rel h F
 refine⟨w',u,p,⟨fun b q=>by rw[W];exact h.bH b q,fun z E e=>by rw[W];exact h.bX z E e,?_,?_,fun g cs e=>l (h.bR g cs e)⟩⟩
 . intro z o a
   rw[Tr.eP 24 k _ H z A] at a
   by_cases e:z=k
   . subst e
     simp only[if_true,Option.some.injEq] at a;subst a;refine⟨B,R,hi,_,t,y,by grind,Q,T,fun i e he=>⟨U i e he,fun j x hj=>?_⟩⟩
     have htl:(m.toList.take (B.s+off)).length=B.s+off:=by simp;omega
     rcases V i j e x he hj with⟨hlt,D,N,C⟩|⟨hge,hlt,C⟩|⟨hge,D,N,C⟩
     . obtain ⟨v, hv, F⟩ := (hc i D N).2 j x C
       refine⟨v,?_,l F⟩;rw[getElem?_toArray,append_assoc,getElem?_append_left aa,getElem?_take,if_pos aa]
       grind
     . obtain ⟨v, hv, F⟩ := hx.get C
       refine⟨v,?_,l F⟩;rw[getElem?_toArray,append_assoc,getElem?_append_right aa,htl,getElem?_append_left aa];rw[<-hv];congr 1;omega
     . obtain ⟨v, hv, F⟩ := (hc i D N).2 j x C
       refine⟨v,?_,l F⟩;rw[getElem?_toArray,getElem?_append_right aY,length_append,htl,getElem?_drop,hvl];rw[show B.s+off+xs.length+(B.s+(i * sz+j) - (B.s+off+xs.length))=B.s+(i * sz+j) by omega]
       grind
   . rw [if_neg e] at a
     obtain⟨E,d,L,ho'⟩:=h.obj z o a;refine⟨E,d,L,?_⟩;have K:E.b≠B.b:=fun e'=>e (h.inj z k o _ E B a hk d R e')
     exact ho'.mono (I _ K) l (fun b X=>⟨p.le.au b X,p.au h b X⟩)
 . intro k1 k2 o1 o2 B1 B2 g1 g2 f1 f2 eb
   rw[Tr.eP 24 k _ H _ A] at g1 g2;have O:∃o,H.get k1=some o:=by
    by_cases e:k1=k
    . grind
    . grind
   have J:∃o,H.get k2=some o:=by
    by_cases e:k2=k
    . grind
    . grind
   obtain⟨_,O⟩:=O;obtain⟨_,J⟩:=J;exact h.inj k1 k2 _ _ B1 B2 O J f1 f2 eb
def Ctx.bind (c:Ctx)(k:Nat)(B:fp):Ctx:=⟨fun j=>if j=k then some B else c.f j,c.au⟩
theorem Ctx.Cc {k:Nat}{B:fp}(h:c.f k=none):c.le (c.bind k B):=
 ⟨fun j p e=>by
  unfold Ctx.bind
  grind,fun _ e=>e⟩
theorem aN.alloc (h:aN G c w H){k:Nat}(Q:c.f k=none)(m:k+1<2 ^ 24)(t:TypeId){arr:Array Value}{sz:Nat}{es:List (List AV)}{n:Nat}(hn:n≤arr.size)(Z:es.length * sz≤n)
 (J:∀(i:Nat) e,es[i]? = some e->e.length=sz∧∀(j:Nat) x,e[j]? = some x->∃v,arr[i * sz+j]? = some v∧Rel c w x v) :
 Ext c w H (c.bind k ⟨w.heap.size,0,n,sz⟩) (w.alloc (.cells arr t)) (H.set 24 k (some (.arr sz es)))∧aN G (c.bind k ⟨w.heap.size,0,n,sz⟩) (w.alloc (.cells arr t)) (H.set 24 k (some (.arr sz es))):=by
 have S:(w.alloc (.cells arr t)).heap.size=w.heap.size+1:=World.size_alloc w _;have r:∀b,b<w.heap.size->(w.alloc (.cells arr t)).heap[b]? = w.heap[b]?:=fun b p=>Go.RowKit.Below.heap_alloc w _ b p
 have N:c.le (c.bind k ⟨w.heap.size,0,n,sz⟩):=Ctx.Cc Q;have Y:H.get k=none:=by
  cases e:H.get k with
  | none=>rfl
  | some o =>
    obtain⟨B,hB,_⟩:=h.obj k o e
    grind
 have y:(c.bind k ⟨w.heap.size,0,n,sz⟩).f k=some ⟨w.heap.size,0,n,sz⟩:=by simp[Ctx.bind]
 have l:∀j,j≠k->(c.bind k ⟨w.heap.size,0,n,sz⟩).f j=c.f j:=fun j E=>by simp[Ctx.bind,E]
 have d:Ext c w H (c.bind k ⟨w.heap.size,0,n,sz⟩) (w.alloc (.cells arr t)) (H.set 24 k (some (.arr sz es))):=by
  refine⟨N,rfl,rfl,rfl,aa,fun b p _=>r b p,fun b p => .inl p,?_⟩
  rintro b ⟨u,o,M,a,q,rfl⟩
  rw[Tr.eP 24 k _ H u m] at a
  by_cases e:u=k
  . grind
  . rw[if_neg e] at a;rw[l u e] at q;exact .inl ⟨u,o,M,a,q,rfl⟩
 have s:∀{x v},Rel c w x v->Rel (c.bind k ⟨w.heap.size,0,n,sz⟩) (w.alloc (.cells arr t)) x v:=fun J=>d.rel h J
 refine⟨d,⟨fun b p=>by have:=h.bH b p;omega,?_,?_,?_,fun g R e=>s (h.bR g R e)⟩⟩
 . intro j B e
   by_cases E:j=k
   . grind
   . rw[l j E] at e;have:=h.bX j B e;omega
 . intro u o a
   rw[Tr.eP 24 k _ H u m] at a
   by_cases e:u=k
   . subst e
     simp only[if_true,Option.some.injEq] at a;subst a;refine⟨_,y,fun W=>Nat.lt_irrefl _ (h.bH _ W),arr,t,heap_alloc_new w _,by grind,rfl,Z,fun i e T=>⟨(J i e T).1,fun j x E=>?_⟩⟩
     grind
   . rw [if_neg e] at a
     obtain⟨M,q,L,K⟩:=h.obj u o a;refine⟨M,by grind,L,?_⟩
     exact K.mono (r _ (h.bX _ _ q)) s (fun b p=>⟨d.le.au b p,d.au h b p⟩)
 . intro F D o1 o2 U V O P A z X
   rw[Tr.eP 24 k _ H _ m] at O P
   by_cases I:F=k<;>by_cases C:D=k
   . omega
   . subst I;rw[y] at A;cases A;rw[l D C] at z;have:=h.bX _ _ z;grind
   . subst C;rw[y] at z;cases z;rw[l F I] at A;have:=h.bX _ _ A;grind
   . rw [if_neg I] at O; rw [if_neg C] at P; rw [l F I] at A; rw [l D C] at z
     exact h.inj F D _ _ U V O P A z X
theorem aN.vJ (h:aN G c w H){k:Nat}(Q:c.f k=none)(p:k+1<2 ^ 24)(ob:Obj)(o:an){sz n:Nat}(W:∀(c':Ctx) (w':World),w'.heap[w.heap.size]? = some ob->(∀{x v},Rel c w x v->Rel c' w' x v)->(∀b,c.au b->c'.au b∧w'.heap[b]? = w.heap[b]?)->fH c' w' ⟨w.heap.size,0,n,sz⟩ o) :
 Ext c w H (c.bind k ⟨w.heap.size,0,n,sz⟩) (w.alloc ob) (H.set 24 k (some o))∧aN G (c.bind k ⟨w.heap.size,0,n,sz⟩) (w.alloc ob) (H.set 24 k (some o)):=by
 have O:(w.alloc ob).heap.size=w.heap.size+1:=World.size_alloc w _;have r:∀b,b<w.heap.size->(w.alloc ob).heap[b]? = w.heap[b]?:=fun b l=>Go.RowKit.Below.heap_alloc w _ b l
 have E:c.le (c.bind k ⟨w.heap.size,0,n,sz⟩):=Ctx.Cc Q;have t:(c.bind k ⟨w.heap.size,0,n,sz⟩).f k=some ⟨w.heap.size,0,n,sz⟩:=by simp[Ctx.bind]
 have i:∀j,j≠k->(c.bind k ⟨w.heap.size,0,n,sz⟩).f j=c.f j:=fun j N=>by simp[Ctx.bind,N]
 have a:Ext c w H (c.bind k ⟨w.heap.size,0,n,sz⟩) (w.alloc ob) (H.set 24 k (some o)):=by
  refine⟨E,rfl,rfl,rfl,aa,fun b l _=>r b l,fun b l => .inl l,?_⟩
  rintro b ⟨s,F,K,d,q,rfl⟩
  rw[Tr.eP 24 k _ H s p] at d
  by_cases e:s=k
  . grind
  . rw[if_neg e] at d;rw[i s e] at q;exact .inl ⟨s,F,K,d,q,rfl⟩
 have m:∀{x v},Rel c w x v->Rel (c.bind k ⟨w.heap.size,0,n,sz⟩) (w.alloc ob) x v:=fun R=>a.rel h R
 refine⟨a,⟨fun b l=>by have:=h.bH b l;omega,?_,?_,?_,fun g V e=>m (h.bR g V e)⟩⟩
 . intro j B e
   by_cases N:j=k
   . grind
   . rw[i j N] at e;have:=h.bX j B e;omega
 . intro s F d
   rw[Tr.eP 24 k _ H s p] at d
   by_cases e:s=k
   . subst e
     simp only[if_true,Option.some.injEq] at d;subst d;exact⟨_,t,fun P=>Nat.lt_irrefl _ (h.bH _ P),W _ _ (heap_alloc_new w _) m (fun b l=>⟨a.le.au b l,a.au h b l⟩)⟩
   . rw [if_neg e] at d
     obtain⟨K,q,I,J⟩:=h.obj s F d;refine⟨K,by grind,I,?_⟩
     exact J.mono (r _ (h.bX _ _ q)) m (fun b l=>⟨a.le.au b l,a.au h b l⟩)
 . intro A C Y X S T M L y u U
   rw[Tr.eP 24 k _ H _ p] at M L
   by_cases D:A=k<;>by_cases z:C=k
   . omega
   . subst D;rw[t] at y;cases y;rw[i C z] at u;have:=h.bX _ _ u;grind
   . subst z;rw[t] at u;cases u;rw[i A D] at y;have:=h.bX _ _ y;grind
   . rw [if_neg D] at M; rw [if_neg z] at L; rw [i A D] at y; rw [i C z] at u
     exact h.inj A C _ _ S T M L y u U
theorem aN.bP (h:aN G c w H){k:Nat}{O:an}{B:fp}(A:H.get k=some O)(D:c.f k=some B)(l:k+1<2 ^ 24)(ob:Obj)(o:an)
 (ho:∀w':World,w'.heap[B.b]? = some ob->(∀{x v},Rel c w x v->Rel c w' x v)->(∀b,c.au b->w'.heap[b]? = w.heap[b]?)->fH c w' B o) :
 Ext c w H c { w with heap:=w.heap.setIfInBounds B.b ob } (H.set 24 k (some o))∧aN G c { w with heap:=w.heap.setIfInBounds B.b ob } (H.set 24 k (some o)):=by
 have J:B.b<w.heap.size:=h.bX k B D;have hi:¬c.au B.b:=by
  obtain⟨n,P,U,_⟩:=h.obj k O A;rw[D] at P;cases P;exact U
 generalize t:({ w with heap:=w.heap.setIfInBounds B.b ob }:World)=w'
 have z:w'.heap.size=w.heap.size:=by subst t;simp
 have M:w'.heap[B.b]? = some ob:=by subst t;simp[J]
 have p:∀b,b≠B.b->w'.heap[b]? = w.heap[b]?:=by
  intro b s;subst t;simp[Array.getElem?_setIfInBounds,Ne.symm s]
 have y:∀b,Own c (H.set 24 k (some o)) b->Own c H b:=by
  rintro b ⟨i,C,n,a,j,rfl⟩
  rw[Tr.eP 24 k _ H i l] at a
  by_cases e:i=k
  . subst e;exact⟨i,_,n,A,j,rfl⟩
  . rw[if_neg e] at a;exact⟨i,C,n,a,j,rfl⟩
 have d:Ext c w H c w' (H.set 24 k (some o)):=
  ⟨.refl c,by grind,by grind,by grind,aa,fun b _ E=>p b (fun e=>E ⟨k,_,B,A,D,e.symm⟩),fun b m => .inl m,fun b m => .inl (y b m)⟩
 have q:∀{x v},Rel c w x v->Rel c w' x v:=fun Q=>d.rel h Q
 refine⟨d,⟨fun b m=>by rw[z];exact h.bH b m,fun i n e=>by rw[z];exact h.bX i n e,?_,?_,fun g S e=>q (h.bR g S e)⟩⟩
 . intro i C a
   rw[Tr.eP 24 k _ H i l] at a
   by_cases e:i=k
   . grind
   . rw [if_neg e] at a
     obtain⟨n,j,F,K⟩:=h.obj i C a;have s:n.b≠B.b:=fun R=>e (h.inj i k C _ n B a A j D R)
     exact⟨n,j,F,K.mono (p _ s) q (fun b N=>⟨d.le.au b N,d.au h b N⟩)⟩
 . intro I L o1 o2 X Y T W V Z eb
   rw[Tr.eP 24 k _ H _ l] at T W;have u:∃o,H.get I=some o:=by
    by_cases e:I=k
    . grind
    . grind
   have r:∃o,H.get L=some o:=by
    by_cases e:L=k
    . grind
    . grind
   obtain⟨_,u⟩:=u;obtain⟨_,r⟩:=r;exact h.inj I L _ _ X Y u r V Z eb
theorem aN.drop (h:aN G c w H)(k:Nat)(d:k+1<2 ^ 24):Ext c w H c w (H.set 24 k none)∧aN G c w (H.set 24 k none):=by
 have a:∀j o,(H.set 24 k none).get j=some o->H.get j=some o:=by
  intro j o e;rw[Tr.eP _ k _ H j d] at e
  grind
 refine⟨⟨.refl c,rfl,rfl,rfl,Nat.le_refl _,fun _ _ _=>rfl,fun _ e => .inl e,?_⟩,⟨h.bH,h.bX,fun j o e=>h.obj j o (a j o e),fun p q r s t u n l=>h.inj _ _ _ _ _ _ (a _ _ n) (a _ _ l),h.bR⟩⟩
 rintro b ⟨i,o,m,g,f,rfl⟩
 exact .inl ⟨i,o,m,a _ _ g,f,rfl⟩
theorem aN.rename (h:aN G c w H){k k':Nat}(F:k+1<2 ^ 24)(q:k'+1<2 ^ 24)(u:c.f k'=none){sz:Nat}{es es':List (List AV)}{B:fp}(N:H.get k=some (.arr sz es))(K:c.f k=some B)
 (off n:Nat)(hn:off * sz+n≤B.n)(O:es'.length * sz≤n)(I:∀(i:Nat) x,es'[i]? = some x->es[off+i]? = some x) :
 Ext c w H (c.bind k' ⟨B.b,B.s+off * sz,n,sz⟩) w ((H.set 24 k none).set 24 k' (some (.arr sz es')))∧aN G (c.bind k' ⟨B.b,B.s+off * sz,n,sz⟩) w ((H.set 24 k none).set 24 k' (some (.arr sz es'))):=by
 have cF:k≠k':=by rintro rfl;rw[K] at u;cases u
 have r:c.le (c.bind k' ⟨B.b,B.s+off * sz,n,sz⟩):=Ctx.Cc u;have l:(c.bind k' ⟨B.b,B.s+off * sz,n,sz⟩).f k'=some ⟨B.b,B.s+off * sz,n,sz⟩:=by simp[Ctx.bind]
 have a:∀j,j≠k'->(c.bind k' ⟨B.b,B.s+off * sz,n,sz⟩).f j=c.f j:=fun j m=>by simp[Ctx.bind,m]
 have M:∀j o,((H.set 24 k none).set 24 k' (some (.arr sz es'))).get j=some o->(j=k'∧o = .arr sz es')∨(j≠k'∧j≠k∧H.get j=some o):=by
  intro j o e;rw[Tr.eP 24 k' _ _ j q,Tr.eP 24 k _ H j F] at e
  by_cases y:j=k'
  . grind
  . grind
 have p:∀{x v},Rel c w x v->Rel (c.bind k' ⟨B.b,B.s+off * sz,n,sz⟩) w x v:=fun hr=>hr.mono r (fun _ _=>rfl)
 obtain⟨B0,J,hi,R,t,S,hs,hsz0,hl,hc⟩:=h.obj k _ N;rw[K] at J;cases J;refine⟨⟨r,rfl,rfl,rfl,Nat.le_refl _,fun _ _ _=>rfl,fun _ e => .inl e,?_⟩,⟨h.bH,?_,?_,?_,fun g cs e=>p (h.bR g cs e)⟩⟩
 . rintro b ⟨j, o, E, m, d, rfl⟩
   rcases M j o m with⟨rfl,_⟩|⟨y,_,A⟩
   . rw[l] at d;cases d;exact .inl ⟨k,_,B,N,K,rfl⟩
   . rw[a j y] at d;exact .inl ⟨j,o,E,A,d,rfl⟩
 . intro j E e
   by_cases m:j=k'
   . grind
   . rw[a j m] at e;exact h.bX j E e
 . intro j o m
   rcases M j o m with⟨rfl,rfl⟩|⟨y,V,A⟩
   . refine ⟨_, l, hi, R, t, S, by grind, rfl, O, fun i e he => ⟨(hc _ e (I i e he)).1, fun j x m => ?_⟩⟩
     grind
   . obtain ⟨E, d, P, Q⟩ := h.obj j o A
     refine⟨E,by grind,P,?_⟩
     exact Q.mono rfl p (fun b S=>⟨r.au b S,rfl⟩)
 . intro Y W o1 o2 X Z g1 g2 z C T
   rcases M _ _ g1 with⟨rfl,_⟩|⟨y,V,A⟩<;>rcases M _ _ g2 with⟨e2,_⟩|⟨L,U,D⟩
   . omega
   . rw [l] at z; cases z; rw [a _ L] at C
     exact absurd (h.inj k W _ _ B Z N D K C T).symm U
   . subst e2; rw [l] at C; cases C; rw [a _ y] at z
     exact absurd (h.inj Y k _ _ X B A N z K T) V
   . rw [a _ y] at z; rw [a _ L] at C
     exact h.inj Y W _ _ X Z A D z C T
end
end Go.Ago
end
