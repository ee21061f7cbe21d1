/-
  Part A04: lemmas, each with its own conditions.
-/
import Derived.Laws.NewFold
import Derived.Laws.Tables
import Derived.Laws.Append
import Derived.Laws.Strings
import Derived.Great.FillDense
import Derived.Great.BuildSlice
import Derived.Test.YthaolifcglpkdaaGreatDoorA03
set_option maxRecDepth 100000
set_option maxHeartbeats 0
set_option linter.all false
section
namespace Go.Ago
open List Nat
def ry (P:Program)(d:TypeDesc):TD->Prop
 | .struct o=>∃g,d = .struct g∧g.size=o.length∧∀(i j m:Nat) (t:TypeId),o[i]? = some (j,m,t)->
  ∃f h,g[i]? = some f∧f.offset=j∧f.type=t∧P.info? t=some h∧h.size=m∧f.name ≠ "_"
 | .slice e=>d = .slice e
 | .array n e=>d = .array n e
 | .int k=>d = .int k
 | .bool=>d = .bool
 | .string=>d = .string
 | .iface=>∃l,d = .interface l
 | .ptr=>∃e,d = .pointer e
 | .func=>∃a b c,d = .func a b c
 | .map k e=>d = .map k e
 | .other=>∀l,d≠.interface l
def xj:TypeDesc->Bool
 | .struct _ | .array _ _=>true
 | _=>false
structure pG (P:Program)(t:TypeId)(ti:TI):Prop where
 ok:∃info d z,P.info? t=some info∧P.underlying t=some d∧info.size=ti.size∧info.bytes=ti.bytes∧ti.agg=xj d∧ry P d ti.desc∧info.zero=some z ∧
  (∀c w,aQ c w ti.zero z.cells.toList)∧ti.zero.length=ti.size∧(∀x∈ti.zero,x.one=true)∧(∀c w,Rel c w (match ti.agg with|true => .agg ti.zero|false=>ti.zero.headD .any) z)
 kF:ti.kF=true->P.eqGuardType P.depth t=false∧(∀fs,ti.desc = .struct fs->P.stoodInHeld t=false)
structure bW (P:Program)(E:Env):Prop where
 ti:∀t i,E.ti t=some i->pG P t i
section
variable {H:ai} {x:bk ⊕ AV}
theorem cL {E:Env}{t:TypeId}{f:TI->Rd}(h:(cf E t f).run H=some x):∃i,E.ti t=some i∧(f i).run H=some x:=by
 unfold cf at h;cases e:E.ti t with
 | none=>rw[e] at h;simp[Rd.run] at h
 | some i=>grind
theorem cy {b:Bool}{r:Rd}(h:(Rd.bZ b r).run H=some x):b=true∧r.run H=some x:=by
 cases b with
 | true=>exact⟨rfl,h⟩
 | false=>simp[Rd.run] at h
theorem lL {k:Nat}{f:an->Rd}(h:(Rd.rd k f).run H=some x):∃o,H.get k=some o∧(f o).run H=some x:=by
 simp[Rd.run] at h
 grind
theorem nM {o:Option (List AV)}{f:List AV->Rd}(h:(Rd.opt o f).run H=some x):∃e,o=some e∧(f e).run H=some x:=by
 cases o with
 | none=>simp[Rd.run] at h
 | some e=>exact⟨e,rfl,h⟩
theorem sP {b:Bool}{r s:Rd}(h:(Rd.br b r s).run H=some x):(b=true∧r.run H=some x)∨(b=false∧s.run H=some x):=by
 cases b with
 | true=>exact .inl ⟨rfl,h⟩
 | false=>exact .inr ⟨rfl,h⟩
theorem aE (h:Rd.fail.run H=some x):False:=by simp[Rd.run] at h
theorem bw {e:bk}(h:(Rd.ret e).run H=some x):x = .inl e:=by simp[Rd.run] at h;grind
theorem jx {v:AV}{k:Nat}{o:an}(h:(iJ v k o).run H=some x):k+1<2 ^ 24∧x = .inl ⟨v,[(k,some o)]⟩:=by
 obtain⟨b,a⟩:=cy h;exact⟨by have:=le_of_ble_eq_true b;omega,bw a⟩
end
def aW (G:eZ)(c:Ctx)(w:World)(H:ai)(nm:Nat):bk ⊕ AV->Result Value->Prop
 | .inl b,a=>∃v e d,a = .ok v e∧Ext c w H d e (bk.dH H b.up)∧aN G d e (bk.dH H b.up)∧Rel d e b.val v∧∀k,k≠nm->d.f k=c.f k
 | .inr x,a=>∃v,a = .halt (.panic v) w∧Rel c w x v
section
variable {P:Program} {E:Env} {G:eZ} {c:Ctx} {w:World} {H:ai} {nm:Nat}
theorem aW.quiet (b:aN G c w H){x:AV}{v:Value}(a:Rel c w x v):aW G c w H nm (.inl ⟨x,[]⟩) (.ok v w):=
 ⟨v,w,c,rfl,Ext.refl c w H,b,a,fun _ _=>rfl⟩
theorem kj {t:TypeId}{b:TI}(h:pG P t b)(w:World):(sizeOf t).run P w = .ok b.size w:=by
 obtain⟨a,d,z,f,_,e,_⟩:=h.ok;simp[sizeOf,typeInfo,f,e]
theorem u_ {t:TypeId}{b:TI}(h:pG P t b)(w:World):(isAgg t).run P w = .ok b.agg w:=by
 obtain⟨a,d,z,_,f,_,_,e,_⟩:=h.ok;rw[e];unfold isAgg xj;simp[run_underlying f];cases d<;>rfl
theorem Dc {t:TypeId}{a:TI}(h:pG P t a)(w:World):∃z,(zeroValue t).run P w = .ok z w∧(∀c w,aQ c w a.zero z.cells.toList)∧a.zero.length=a.size∧(∀x∈a.zero,x.one=true) ∧
 ∀c w,Rel c w (match a.agg with|true => .agg a.zero|false=>a.zero.headD .any) z:=by
 obtain⟨f,d,z,g,_,_,_,_,_,k,i,j,e,b⟩:=h.ok;exact⟨z,by simp[zeroValue,typeInfo,g,k],i,j,e,b⟩
theorem jV {t:TypeId}{b:TI}(h:pG P t b):∃d,(∀w,(underlying t).run P w = .ok d w)∧P.underlying t=some d∧ry P d b.desc:=by
 obtain⟨a,d,z,_,e,_,_,_,f,_⟩:=h.ok;exact⟨d,fun w=>run_underlying e w,e,f⟩
theorem H6 (k:aN G c w H){b:TI}{t:TypeId}(i:pG P t b){cs:List AV}{off:Nat}{x:bk ⊕ AV}(h:(nr b cs off).run H=some x){arr:Array Value}(g:aQ c w cs arr.toList) :
 aW G c w H nm x ((part t arr off).run P w):=by
 obtain⟨m,a⟩:=cy h;unfold part;simp only[Sem.run_bind,u_ i];cases j:b.agg with
 | true =>
   rw[j] at a;obtain rfl:=bw a;simp only[if_true,Sem.run_bind,kj i,Result.andThen_ok];have:arr.extract off (off+b.size)=((arr.toList.drop off).take b.size).toArray:=by
    apply Array.ext'
    simp
   rw[this];exact aW.quiet k (.agg ((g.drop off).take _).1 ((g.drop off).take _).2)
 | false =>
   rw[j] at a;cases f:cs[off]? with
   | none=>rw[f] at a;exact(aE a).elim
   | some y =>
     rw[f] at a;obtain rfl:=bw a;obtain⟨v,l,e⟩:=g.get f;have:=by simpa using l
     rw[this];exact aW.quiet k e
theorem FE {cs e:List AV}{off n:Nat}(h:chunk cs off n=some e):off+n≤cs.length∧e=(cs.drop off).take n:=by
 unfold chunk at h;cases a:ble (off+n) cs.length with
 | true=>simp_all
 | false=>grind
theorem UA {a:TI}{cs e:List AV}{off:Nat}(i:chunk cs off a.size=some e){x:bk ⊕ AV}(h:(nr a e 0).run H=some x):(nr a cs off).run H=some x:=by
 obtain⟨f,rfl⟩:=FE i;obtain⟨k,b⟩:=cy h;have g:ble (off+a.size) cs.length=true:=ble_eq_true_of_le f;unfold nr;rw[g];show (match a.agg with
  | true=>Rd.ret ⟨.agg ((cs.drop off).take a.size),[]⟩
  | false => match cs[off]? with
    | some x => .ret ⟨x,[]⟩
    | none => .fail).run H=some x
 cases j:a.agg with
 | true =>
   grind
 | false =>
   rw[j] at b;dsimp only at b ⊢;rw[getElem?_take] at b
   by_cases d:0<a.size
   . grind
   . simp only [d, if_false] at b
     exact(aE b).elim
theorem Ih (L:bW P E)(D:aN G c w H){t:TypeId}{a:AV}{v:Value}(V:Rel c w a v){x:bk ⊕ AV}(h:(yG E t a).run H=some x) :
 ∃y u,x = .inl ⟨y,[]⟩∧(Instr.loadAt t v).run P w = .ok u w∧Rel c w y u:=by
 cases V with
 | @ptr _ _ k i q B C =>
   obtain⟨l,m,h⟩:=cL h;have r:=L.ti t l m;obtain⟨o,F,h⟩:=lL h;cases o with
   | dG _ _=>exact(aE h).elim
   | lp _ _ _ _ _=>exact(aE h).elim
   | mp _=>exact(aE h).elim
   | cm _ _=>exact(aE h).elim
   | arr sz Y =>
     obtain⟨e,K,h⟩:=nM h;obtain⟨z,f⟩:=cy h;have p:=le_of_ble_eq_true z;have W:=(D.sz F C).1;simp only[Instr.loadAt,Instr.sureAddr,Sem.run_bind,Sem.run_pure,Result.andThen_ok,loadVar,u_ r,W];cases g:l.agg with
     | true =>
       rw[g] at f;obtain rfl:=bw f;obtain⟨R,j,b⟩:=D.loadCells P F C K q l.size p;simp only[if_true,Sem.run_bind,kj r,Result.andThen_ok,j,Sem.run_pure];exact⟨_,_,rfl,rfl,.agg b.1 b.2⟩
     | false =>
       rw[g] at f;dsimp only at f;cases n:e[q]? with
       | none=>rw[n] at f;exact(aE f).elim
       | some y =>
         rw[n] at f;obtain rfl:=bw f;obtain⟨v,M,_,A⟩:=D.cell F C K n
         simp_all
 | @bq _ _ U a R Z N O A =>
   obtain⟨l,m,h⟩:=cL h;have r:=L.ti t l m;obtain⟨z,f⟩:=cy h;have p:=le_of_ble_eq_true z;simp only[Instr.loadAt,Instr.sureAddr,Sem.run_bind,Sem.run_pure,Result.andThen_ok,loadVar,u_ r];cases g:l.agg with
   | true =>
     rw[g] at f;obtain rfl:=bw f;obtain⟨j,b⟩:=UW (c:=c.bare) P N O A l.size aa;have b:=b.oL;simp only[if_true,Sem.run_bind,kj r,Result.andThen_ok,j,Sem.run_pure];exact⟨_,_,rfl,rfl,.agg b.1 b.2⟩
   | false =>
     rw[g] at f;dsimp only at f;cases n:U[0]? with
     | none=>rw[n] at f;exact(aE f).elim
     | some y =>
       rw[n] at f;obtain rfl:=bw f;obtain⟨v,M,s⟩:=aQ.get (c:=c.bare) (w:=w) ⟨N,A⟩ n;have s:=s.oL;have:=O 0 v M;rw[show a.add 0=a by rfl] at this
       simp_all
 | _=>exact(aE h).elim
theorem UX (g:bW P E)(d:aN G c w H){t:TypeId}{a:AV}{v:Value}(f:Rel c w a v){x:bk ⊕ AV}(h:(yG E t a).run H=some x) :
 aW G c w H nm x ((Instr.loadAt t v).run P w):=by
 obtain⟨y,u,rfl,i,e⟩:=Ih g d f h;rw[i];exact aW.quiet d e
theorem qZ (H:ai)(k:Nat)(o:Option an):bk.dH H [(k,o)]=H.set 24 k o:=rfl
theorem NN {xs:List AV}(h:xs.all AV.one=true):∀x∈xs,x.one=true:=by grind
theorem AA {v:AV}(h:v.cells.all AV.one=true):v.one=true∨∃cs,v = .agg cs:=by
 cases v with
 | agg cs=>simp
 | _=>left;simpa[AV.cells] using h
theorem YX {es:List (List AV)}{sz i off:Nat}{e xs:List AV}(l:es[i]? = some e)(o:∀(i:Nat) e,es[i]? = some e->e.length=sz)(p:off+xs.length≤e.length) :
 (∀(a:Nat) d,(es.set i (lN e off xs))[a]? = some d->d.length=sz) ∧
 ∀(a j:Nat) d x,(es.set i (lN e off xs))[a]? = some d->d[j]? = some x->(a * sz+j<i * sz+off∧∃g,es[a]? = some g∧g[j]? = some x) ∨
  (i * sz+off≤a * sz+j∧a * sz+j<i * sz+off+xs.length∧xs[a * sz+j - (i * sz+off)]? = some x)∨(i * sz+off+xs.length≤a * sz+j∧∃g,es[a]? = some g∧g[j]? = some x):=by
 have q:=o i e l;have n:i<es.length:=(List.getElem?_eq_some_iff.1 l).1
 constructor
 . intro a d h
   rw[getElem?_set] at h
   by_cases b:i=a
   . subst b
     simp[n] at h;subst h;rw[Lb _ _ _ p];omega
   grind
 . intro a j d x h m
   rw[getElem?_set] at h
   by_cases b:i=a
   . subst b
     simp[n] at h;subst h;rw[Dv _ _ _ _ p] at m
     grind
   . simp [b] at h
     have r:j<sz:=by have:=(List.getElem?_eq_some_iff.1 m).1;rw[o a d h] at this;exact this
     rcases Nat.lt_or_gt_of_ne b with f|f
     . right; right
       have:(i+1) * sz≤a * sz:=mul_le_mul_right _ f
       grind
     . left
       have:(a+1) * sz≤i * sz:=mul_le_mul_right _ f
       grind
theorem Zh (hE:bW P E)(N:aN G c w H){t:TypeId}{a y:AV}{v u:Value}(W:Rel c w a v)(hy:Rel c w y u){x:bk ⊕ AV}(h:(KK E t a y).run H=some x) :
 ∃d w' c',x = .inl d∧(Instr.storeAt t v u).run P w = .ok () w'∧Ext c w H c' w' (bk.dH H d.up)∧aN G c' w' (bk.dH H d.up)∧d.val = .any∧∀k,c'.f k=c.f k:=by
 cases W with
 | @ptr _ _ k i j B L =>
   obtain⟨M,I,h⟩:=cL h;have S:=hE.ti t M I;obtain⟨K,h⟩:=cy h;obtain⟨o,O,h⟩:=lL h;cases o with
   | dG _ _=>exact(aE h).elim
   | lp _ _ _ _ _=>exact(aE h).elim
   | mp _=>exact(aE h).elim
   | cm _ _=>exact(aE h).elim
   | arr s J =>
     obtain⟨e,C,h⟩:=nM h;obtain⟨h1,D⟩:=cy h;obtain⟨_,z,D⟩:=nM D;cases z;obtain⟨m,rfl⟩:=jx D;have V:=le_of_ble_eq_true h1;simp only[Bool.and_eq_true,beq_iff_eq] at K;obtain⟨l,g⟩:=K;obtain⟨Y,hn,p⟩:=N.sz O L;have Q:=hy.cells (AA g);have F:u.cells.size=M.size:=by rw[<-l];simpa using Q.1.symm
     have X:i<J.length:=(List.getElem?_eq_some_iff.1 C).1;have r:=YX (xs:=y.cells) (off:=j) C p aa;have hB:i * s+j+y.cells.length≤B.n:=by
      have:=p i e C;have h3:(i+1) * s≤J.length * s:=mul_le_mul_right _ X;rw[Nat.add_mul] at h3;omega
     obtain⟨w',R,q,A⟩:=N.store O L m (i * s+j) Q (NN g) hB aY r.1 r.2 P;refine⟨_,w',c,rfl,?_,q,A,rfl,fun _=>rfl⟩
     simp only[Instr.storeAt,Instr.sureAddr,Sem.run_bind,Sem.run_pure,Result.andThen_ok,storeVar,kj S,F,ne_eq,not_true,if_false,Y];omega
 | _=>exact(aE h).elim
theorem Ctx.mV {k:Nat}{B:fp}:∀j,j≠k->(c.bind k B).f j=c.f j:=fun j a=>by simp[Ctx.bind,a]
theorem OQ (D:bW P E)(I:aN G c w H)(m:c.f nm=none){t:TypeId}{y:AV}{u:Value}(K:Rel c w y u){x:bk ⊕ AV}(h:(Ky E nm t y).run H=some x) :
 aW G c w H nm x ((Instr.box t u).run P w):=by
 obtain⟨a,p,h⟩:=cL h;have L:=D.ti t a p;obtain⟨A,h⟩:=cy h;obtain⟨_,o,h⟩:=nM h;cases o;obtain⟨d,rfl⟩:=jx h;simp only[Bool.and_eq_true,beq_iff_eq] at A;obtain⟨g,l⟩:=A;have r:=K.cells (AA l);have := I.alloc m d t (arr := u.cells) (sz := a.size) (es := [y.cells]) (n := a.size) (by have := r.1; grind) ag (fun i e s=>by
  cases i with
  | zero =>
    simp at s;subst s;refine⟨g,fun j x J=>?_⟩
    obtain⟨v,M,F⟩:=r.get J
    grind
  | succ i=>grind)
 refine⟨.pointer (some ⟨w.heap.size,0,none⟩),_,_,?_,this.1,this.2,?_,Ctx.mV⟩
 . rfl
 . have F := Rel.ptr (c := c.bind nm ⟨w.heap.size, 0, a.size, a.size⟩) (w := w.alloc (.cells u.cells t)) (k := nm) (i := 0) (off := 0) (B := ⟨w.heap.size, 0, a.size, a.size⟩) (by simp [Ctx.bind])
   grind
theorem NQ (C:bW P E)(I:aN G c w H)(m:c.f nm=none){t:TypeId}{x:bk ⊕ AV}(h:(Kw E nm t).run H=some x) :
 aW G c w H nm x ((Instr.alloc t true (.tuple #[])).run P w):=by
 obtain⟨a,p,h⟩:=cL h;have A:=C.ti t a p;obtain⟨g,rfl⟩:=jx h;obtain⟨z,y,l,o,_,_⟩:=Dc A w;have r:=l c w;have := I.alloc m g t (arr := z.cells) (sz := a.size) (es := [a.zero]) (n := a.size) (by have := r.1; grind) ag (fun i e q=>by
  cases i with
  | zero =>
    simp at q;subst q;refine⟨o,fun j x D=>?_⟩
    obtain⟨v,J,F⟩:=r.get D
    grind
  | succ i=>grind)
 refine⟨.pointer (some ⟨w.heap.size,0,none⟩),_,_,?_,this.1,this.2,?_,Ctx.mV⟩
 . simp only[Instr.alloc,newVar,newRow,Sem.run_bind,run_newObj_alloc,Result.andThen_ok,Sem.run_pure,y]
 . have F := Rel.ptr (c := c.bind nm ⟨w.heap.size, 0, a.size, a.size⟩) (w := w.alloc (.cells z.cells t)) (k := nm) (i := 0) (off := 0) (B := ⟨w.heap.size, 0, a.size, a.size⟩) (by simp [Ctx.bind])
   grind
theorem Rr (W:bW P E)(L:aN G c w H){t:TypeId}{a:AV}{v:Value}(U:Rel c w a v){f:Nat}{x:bk ⊕ AV}(h:(KD E t a f).run H=some x) :
 aW G c w H nm x ((Instr.fieldAt t v f).run P w):=by
 obtain⟨Q,F,h⟩:=cL h;have Z:=W.ti t Q F;obtain⟨d,O,_,r⟩:=jV Z;cases g:Q.desc with
 | struct Y =>
   rw[g] at h r;dsimp only at h;cases I:Y[f]? with
   | none=>rw[I] at h;exact(aE h).elim
   | some q =>
     obtain⟨n,y,V⟩:=q;rw[I] at h;dsimp only at h;obtain⟨M,h⟩:=cy h;have M:0<y:=by simpa using M
     obtain⟨A,rfl,S,C⟩:=r;obtain⟨T,N,p,l,D,m,s,_⟩:=C f n y V I;have j:(sizeOf T.type).run P w = .ok y w:=by simp[sizeOf,typeInfo,D,m,s]
     have u:¬y=0:=aa;cases U with
     | @ptr _ _ k i o B J =>
       obtain rfl:=bw h;simp only[Instr.fieldAt,Sem.run_bind,O,Result.andThen_ok,p,Instr.sureAddr,Sem.run_pure,fieldPlace,j,u,if_false,add_plain,l];refine aW.quiet L ?_;have:=Rel.ptr (c:=c) (w:=w) (i:=i) (off:=o+n) J
       grind
     | @bq _ _ cs a vs hi hl hc hr =>
       obtain rfl:=bw h;simp only[Instr.fieldAt,Sem.run_bind,O,Result.andThen_ok,p,Instr.sureAddr,Sem.run_pure,fieldPlace,j,u,if_false,l];have K:=(aQ.drop (c:=c.bare) (w:=w) ⟨hl,hr⟩ n);refine aW.quiet L (Rel.bq (by rw[block_add];exact hi) K.1 (fun i v e=>?_) K.2)
       rw[vG]
       grind
     | _=>exact(aE h).elim
 | _=>rw[g] at h;exact(aE h).elim
theorem qi {n:Int}{len:Nat}(h:bp n len=true):0≤n∧n<len:=by simpa[bp] using h
theorem Tc (K:bW P E)(I:aN G c w H){t:TypeId}{a ix:AV}{v iv:Value}(X:Rel c w a v)(s:Rel c w ix iv){x:bk ⊕ AV}(h:(yF E t a ix).run H=some x) :
 aW G c w H nm x ((Instr.indexAt t v iv).run P w):=by
 obtain⟨ti,L,h⟩:=cL h;have ht:=K.ti t ti L;obtain⟨d,F,_,p⟩:=jV ht;cases l:ti.desc with
 | slice e =>
   rw[l] at h p;obtain rfl:d = .slice e:=p;cases s with
   | int k n =>
     obtain⟨r,q,h⟩:=cL h;have o:=kj (K.ti e r q) w;cases X with
     | @az _ _ ka i A D O B a Q hs z C =>
       obtain⟨m,h⟩:=cy h;obtain rfl:=bw h;simp only[Bool.and_eq_true,beq_iff_eq] at m;obtain⟨u,M⟩:=m;obtain⟨f,g⟩:=qi M;obtain⟨rfl,_⟩:=C aa;simp only[Instr.indexAt,asIntOf,Sem.run_bind,Sem.run_pure,F,Result.andThen_ok,f,g,and_self,if_true,o,add_plain];refine aW.quiet I ?_;have:=Rel.ptr (c:=c) (w:=w) (i:=i+n.toNat) (off:=0) Q
       grind
     | @ak _ _ D es O a Z z hi N hc hr =>
       obtain⟨m,h⟩:=cy h;obtain⟨cs,U,h⟩:=nM h;obtain rfl:=bw h;simp only[Bool.and_eq_true,beq_iff_eq] at m;obtain⟨u,M⟩:=m;obtain⟨f,g⟩:=qi M;simp only[Instr.indexAt,asIntOf,Sem.run_bind,Sem.run_pure,F,Result.andThen_ok,f,g,and_self,if_true,o];have hlt:n.toNat<es.length:=aa;have hcl:=N _ cs U;refine aW.quiet I (Rel.bq (vs:=(List.range D).map fun j=>Z n.toNat j) (by rw[block_add];grind) aY (fun j v J=>?_) (fun j y v J e''=>?_))
       . have hj : j < D := by have := (List.getElem?_eq_some_iff.1 J).1; simpa using this
         simp[hj] at J;subst J;rw[vG,<-u]
         grind
       grind
     | fk D =>
       obtain⟨m,h⟩:=cy h;simp only[Bool.and_eq_true] at m;obtain⟨f,g⟩:=qi m.2
       grind
     | _=>exact(aE h).elim
   | _=>exact(aE h).elim
 | array A e =>
   rw[l] at h p;obtain rfl:d = .array A e:=p;cases s with
   | int k n =>
     obtain⟨r,q,h⟩:=cL h;have o:=kj (K.ti e r q) w;cases X with
     | @ptr _ _ ka i V B Q =>
       obtain⟨m,h⟩:=cy h;obtain rfl:=bw h;obtain⟨f,g⟩:=qi m;simp only[Instr.indexAt,asIntOf,Sem.run_bind,Sem.run_pure,F,Result.andThen_ok,Instr.sureAddr,f,g,and_self,if_true,o,add_plain];refine aW.quiet I ?_;have:=Rel.ptr (c:=c) (w:=w) (i:=i) (off:=V+n.toNat * r.size) Q
       grind
     | @bq _ _ cs a Z hi N hc hr =>
       obtain⟨m,h⟩:=cy h;obtain⟨ch,W,h⟩:=nM h;obtain⟨_,rfl⟩:=FE W;obtain rfl:=bw h;obtain⟨f,g⟩:=qi m;simp only[Instr.indexAt,asIntOf,Sem.run_bind,Sem.run_pure,F,Result.andThen_ok,Instr.sureAddr,f,g,and_self,if_true,o];have hR:=aQ.take (aQ.drop (c:=c.bare) (w:=w) ⟨N,hr⟩ (n.toNat * r.size)) r.size;refine aW.quiet I (Rel.bq (by rw[block_add];exact hi) hR.1 (fun i v e=>?_) hR.2)
       rw[vG]
       grind
     | _=>exact(aE h).elim
   | _=>exact(aE h).elim
 | _=>rw[l] at h;exact(aE h).elim
theorem Rs (B:bW P E)(L:aN G c w H){t:TypeId}{a:AV}{v:Value}(F:Rel c w a v){f:Nat}{x:bk ⊕ AV}(h:(KC E t a f).run H=some x) :
 aW G c w H nm x ((Instr.field t v f).run P w):=by
 obtain⟨C,o,h⟩:=cL h;have J:=B.ti t C o;obtain⟨d,D,_,g⟩:=jV J;cases b:C.desc with
 | struct M =>
   rw[b] at h g;cases F with
   | @agg _ _ U Q R T =>
     dsimp only at h;cases s:M[f]? with
     | none=>rw[s] at h;exact(aE h).elim
     | some q =>
       obtain⟨m,N,A⟩:=q;rw[s] at h;obtain⟨I,l,h⟩:=cL h;obtain⟨k,rfl,K,p⟩:=g;obtain⟨S,z,n,i,r,u,y,_⟩:=p f m N A s;simp only[Instr.field,Sem.run_bind,D,Result.andThen_ok,n,asAgg,Sem.run_pure,r,i];exact H6 L (B.ti A I l) h ⟨aa,aa⟩
   | _=>exact(aE h).elim
 | _=>rw[b] at h;exact(aE h).elim
theorem Td (s:bW P E)(M:aN G c w H){t:TypeId}{a F:AV}{v N:Value}(I:Rel c w a v)(o:Rel c w F N){x:bk ⊕ AV}(h:(yE E t a F).run H=some x) :
 aW G c w H nm x ((Instr.index t v N).run P w):=by
 obtain⟨K,z,h⟩:=cL h;have O:=s.ti t K z;obtain⟨d,L,_,g⟩:=jV O;cases b:K.desc with
 | array B e =>
   rw[b] at h g;obtain rfl:d = .array B e:=g;cases o with
   | int k n =>
     cases I with
     | @agg _ _ T U W V =>
       obtain⟨J,j,h⟩:=cL h;obtain⟨u,h⟩:=cy h;obtain⟨X,y,h⟩:=nM h;obtain⟨i,m⟩:=qi u;simp only[Instr.index,asIntOf,Sem.run_bind,Sem.run_pure,L,Result.andThen_ok,i,m,and_self,if_true,kj (s.ti e J j) w];exact H6 M (s.ti e J j) (UA y h) ⟨aa,aa⟩
     | _=>exact(aE h).elim
   | _=>exact(aE h).elim
 | string =>
   rw[b] at h g;obtain rfl:d = .string:=g;cases o with
   | int k n =>
     cases I with
     | str l =>
       obtain⟨u,h⟩:=cy h;obtain rfl:=bw h;obtain⟨i,m⟩:=qi u;have p:n.toNat<l.length:=aa;have R:(⟨l.toArray⟩:ByteArray)[n.toNat]? = some l[n.toNat]:=by
        have C:n.toNat<(⟨l.toArray⟩:ByteArray).size:=by simpa[ByteArray.size] using p
        rw[getElem?_pos (⟨l.toArray⟩:ByteArray) n.toNat C];rfl
       simp only[Instr.index,asIntOf,Sem.run_bind,Sem.run_pure,L,Result.andThen_ok,i,if_true,R];have:l.getD n.toNat 0=l[n.toNat]:=by simp[getD,getElem?_eq_getElem p]
       rw[this];exact aW.quiet M (.int .u8 _)
     | _=>exact(aE h).elim
   | _=>exact(aE h).elim
 | _=>rw[b] at h;exact(aE h).elim
end
end Go.Ago
end
section
namespace Go.Ago
open List Nat
section flat
theorem flat_get {es:List (List AV)}{sz:Nat}(c:∀(i:Nat) e,es[i]? = some e->e.length=sz):es.flatten.length=es.length * sz ∧
 ∀(i j:Nat) e,es[i]? = some e->j<sz->es.flatten[i * sz+j]? = e[j]?:=by
 induction es with
 | nil=>simp
 | cons a es d =>
   have l:=c 0 a rfl;obtain⟨k,g⟩:=d (fun i e h=>c (i+1) e aY)
   refine⟨by grind,fun i j e h m=>?_⟩
   cases i<;>grind
theorem Bk {es:List (List AV)}{sz p:Nat}(g:∀(i:Nat) e,es[i]? = some e->e.length=sz){x:AV}(h:es.flatten[p]? = some x) :
 ∃e,p=p / sz * sz+p % sz∧p % sz<sz∧es[p / sz]? = some e∧e[p % sz]? = some x:=by
 obtain⟨k,d⟩:=flat_get g;have f:p<es.length * sz:=by grind
 have a:0<sz:=by
  grind
 have c:p / sz<es.length:=(div_lt_iff_lt_mul a).2 f;have j:=mod_lt p a;have l:=d (p / sz) (p % sz) es[p / sz] (getElem?_eq_getElem c) j;have b:p / sz * sz+p % sz=p:=by rw[Nat.mul_comm];exact div_add_mod p sz
 grind
end flat
section
variable {P:Program} {E:Env} {G:eZ} {c:Ctx} {w:World} {H:ai} {nm:Nat}
theorem wS {pl:Nat->Option (Nat×Nat)}{pl':Nat->Option (Nat×Nat)}(z:∀i p,pl i=some p->pl' i=some p):∀(ps:List (Nat×AV)) (l:List (Nat×Value)) (a:List AV) (arr:Array Value) (cs:List AV),
 ps.length=l.length->(∀(i:Nat) p q,ps[i]? = some p->l[i]? = some q->p.1=q.1∧Rel c w p.2 q.2)->aQ c w a arr.toList->l7 pl a ps=some cs->
 ∃d,Instr.fill pl' arr l=some d∧aQ c w cs d.toList∧((∀x∈a,x.one=true)->∀x∈cs,x.one=true)
 | [], l, a, arr, cs, M, _, s, h => by
   obtain rfl:l=[]:=eq_nil_of_length_eq_zero aY;simp only[l7,Option.some.injEq] at h;subst h;exact⟨arr,rfl,s,fun h=>h⟩
 | p::ps,[],_,_,_,M,_,_,_=>by grind
 | (i, y) :: ps, (R, u) :: l, a, arr, cs, M, D, s, h => by
   obtain⟨t,L⟩:=D 0 (i,y) (R,u) rfl rfl;dsimp only at t L;subst t;simp only[l7] at h;cases O:pl i with
   | none=>grind
   | some q =>
     obtain⟨b,f⟩:=q;rw[O] at h;dsimp only at h;cases K:((y.cells.length == f && y.cells.all AV.one) && ble (b+f) a.length) with
     | false=>grind
     | true =>
       rw[K] at h;dsimp only at h;simp only[Bool.and_eq_true,beq_iff_eq] at K;obtain⟨⟨r,A⟩,C⟩:=K;have C:=le_of_ble_eq_true C;have N:=L.cells (AA A);have T:u.cells.size=f:=by rw[<-r];simpa using N.1.symm
       have U:a.length=arr.size:=by simpa using s.1
       have I:=Go.Great.foldl_set b u.cells.toList 0 arr;have n:u.cells.zipIdx.foldl (fun cs (x:Value×Nat)=>cs.setIfInBounds (b+x.2) x.1) arr=(u.cells.toList.zipIdx 0).foldl (fun cs (x:Value×Nat)=>cs.setIfInBounds (b+x.2) x.1) arr:=by
        rw[<-Array.foldl_toList,Array.toList_zipIdx]
       have B:aQ c w (lN a b y.cells) (u.cells.zipIdx.foldl (fun cs (x:Value×Nat)=>cs.setIfInBounds (b+x.2) x.1) arr).toList:=by
        rw[n];refine⟨by rw[Lb _ _ _ aa];grind,fun k x v e o=>?_⟩
        rw[Array.getElem?_toList,I.2 k] at o;rw[Dv _ _ _ _ aa] at e;simp only[Nat.add_zero,Array.length_toList] at o
        by_cases J:k<b
        . rw [if_pos J] at e; rw [if_neg aa] at o
          exact s.2 k x v e aY
        . rw [if_neg J] at e
          by_cases F:k<b+y.cells.length
          . rw [if_pos F] at e; rw [if_pos aa] at o
            exact N.2 _ x v e o
          . rw [if_neg F] at e; rw [if_neg aa] at o
            exact s.2 k x v e aY
       obtain⟨d,J,F,S⟩:=wS z ps l _ _ cs aY (fun j p q e o=>D (j+1) p q aY aY) B h
       refine⟨d,?_,F,fun W=>S fun x Q=>?_⟩
       . rw [Instr.fill, z i _ O]
         grind
       . unfold lN at Q
         grind
theorem Js {P:Program}:∀(a:List Field) (j:List (Nat×Nat×TypeId)),a.length=j.length->
 (∀(i off sz:Nat) (t:TypeId),j[i]? = some (off,sz,t)->∃f b,a[i]? = some f∧f.offset=off∧f.type=t∧P.info? t=some b∧b.size=sz∧f.name ≠ "_")->
 a.mapM (fun f=>(P.info? f.type).map fun i=>(f.offset,i.size))=some (j.map fun q=>(q.1,q.2.1))
 | [],[],_,_=>rfl
 | [],_::_,h,_=>by grind
 | _::_,[],h,_=>by grind
 | f :: a, (off, sz, t) :: j, m, h => by
   obtain⟨u,b,k,n,o,p,r,_⟩:=h 0 off sz t rfl;simp at k;subst k;have s := Js a j aY (fun i off sz t e=>by
    obtain⟨g,b,v,l⟩:=h (i+1) off sz t aY;exact⟨g,b,by grind,l⟩)
   simp_all
theorem OS (J:bW P E)(R:aN G c w H){t:TypeId}{ps:List (Nat×AV)}{j:List (Nat×Value)}(K:ps.length=j.length)
 (l:∀(i:Nat) p q,ps[i]? = some p->j[i]? = some q->p.1=q.1∧Rel c w p.2 q.2){x:bk ⊕ AV}(h:(Kz E t ps).run H=some x) :
 aW G c w H nm x ((Instr.build t j.toArray).run P w):=by
 obtain⟨k,A,h⟩:=cL h;obtain⟨L,d,z,N,O,a3,a4,a5,r,M,S,a9,W,V⟩:=(J.ti t k A).ok;cases a:k.desc with
 | struct v =>
   rw[a] at h r;dsimp only at h;cases g:l7 (Bf v) k.zero ps with
   | none=>rw[g] at h;exact(aE h).elim
   | some s =>
     rw[g] at h;obtain rfl:=bw h;obtain⟨f,rfl,X,U⟩:=r;have y := Js (P := P) f.toList v aa (fun i Y sz t e=>by
      grind)
     obtain ⟨b, B, m, _⟩ := wS (pl' := ((v.map fun q => (q.1, q.2.1)).toArray[·]?)) (c := c) (w := w) (fun i p Q=>by
      unfold Bf at Q
      grind) ps j k.zero z.cells s K l (S c w) g
     have D:P.built t j.toArray.toList=some b:=by
      unfold Program.built;simp only[N,O,M,y];exact B
     rw[run_build w t _ _ D];exact aW.quiet R (by have:=Rel.agg (c:=c) (w:=w) m.1 m.2;omega)
 | array n e =>
   rw[a] at h r;obtain rfl:d = .array n e:=r;obtain⟨F,I,h⟩:=cL h;obtain⟨T,de,ze,Z,b2,b3,_⟩:=(J.ti e F I).ok;cases g:l7 (fun i=>some (i * F.size,F.size)) k.zero ps with
   | none=>rw[g] at h;exact(aE h).elim
   | some s =>
     rw[g] at h;obtain rfl:=bw h;obtain⟨b,B,m,_⟩:=wS (pl':=fun i=>some (i * T.size,T.size)) (c:=c) (w:=w) (fun i p Q=>by grind) ps j k.zero z.cells s K l (S c w) g
     have D:P.built t j.toArray.toList=some b:=by
      unfold Program.built;simp only[N,O,M,Z];exact B
     rw[run_build w t _ _ D];exact aW.quiet R (by have:=Rel.agg (c:=c) (w:=w) m.1 m.2;omega)
 | _=>rw[a] at h;exact(aE h).elim
theorem GG {size:Nat}(m:0<size):∀(ps:List (Nat×AV)) (es es':List (List AV)),(∀(i:Nat) e,es[i]? = some e->e.length=size)->p5 size es ps=some es'->
 l7 (fun i=>some (i * size,size)) es.flatten ps=some es'.flatten∧es'.length=es.length∧(∀(i:Nat) e,es'[i]? = some e->e.length=size)
 | [],es,es',n,h=>by simp only[p5,Option.some.injEq] at h;subst h;exact⟨rfl,rfl,n⟩
 | (i, y) :: ps, es, es', n, h => by
   simp only[p5] at h;cases q:((y.cells.length == size && y.cells.all AV.one) && blt i es.length) with
   | false=>grind
   | true =>
     rw[q] at h;dsimp only at h;simp only[Bool.and_eq_true,beq_iff_eq] at q;obtain⟨⟨d,x⟩,s⟩:=q;have z:i<es.length:=by simpa using s
     have f:∀(j:Nat) e,(es.set i y.cells)[j]? = some e->e.length=size:=by
      intro j e J;rw[getElem?_set] at J
      by_cases L:i=j
      . grind
      . grind
     obtain⟨M,N,A⟩:=GG m ps _ es' f h;refine⟨?_,by grind,A⟩
     obtain⟨I,K⟩:=flat_get n;obtain⟨O,t⟩:=flat_get f;have B:i * size+size≤es.flatten.length:=by
      rw[I];have:(i+1) * size≤es.length * size:=mul_le_mul_right _ z;rw[Nat.add_mul] at this;omega
     have C:lN es.flatten (i * size) y.cells=(es.set i y.cells).flatten:=by
      apply ext_getElem?
      intro p;rw[Dv _ _ _ _ aa,d]
      by_cases D:p<es.length * size
      . have F : p / size < es.length := (div_lt_iff_lt_mul m).2 D
        have r:=mod_lt p m;have b:p / size * size+p % size=p:=by rw[Nat.mul_comm];exact div_add_mod p size
        have u:=K (p / size) (p % size) es[p / size] (getElem?_eq_getElem F) r;rw[b] at u
        by_cases o:p / size=i
        . have g := t i (p % size) y.cells aY r
          rw[<-o,b] at g;subst o;rw[g,if_neg aa,if_pos aa]
          congr 1;omega
        . have g := t (p / size) (p % size) es[p / size] aY r
          rw[b] at g;rw[g,u];rcases Nat.lt_or_gt_of_ne o with k|l
          . have : (p / size + 1) * size ≤ i * size := mul_le_mul_right _ k
            grind
          . have : (i + 1) * size ≤ p / size * size := mul_le_mul_right _ l
            grind
      . grind
     simp only[l7];rw[show((y.cells.length == size && y.cells.all AV.one) && ble (i * size+size) es.flatten.length)=true by
      simp_all]
     grind
theorem zG {zs:List AV}{z:Array Value}{size len:Nat}(j:aQ c w zs z.toList)(l:zs.length=size)(q:0<size) :
 aQ c w (replicate len zs).flatten ((Array.range (len * size)).map (z[· % z.size]!)).toList:=by
 have g:z.size=size:=by rw[<-l];simpa using j.1.symm
 have b:∀(i:Nat) e,(replicate len zs)[i]? = some e->e.length=size:=by
  grind
 obtain⟨o,u⟩:=flat_get b;refine⟨by grind,fun p x v e f=>?_⟩
 obtain⟨m,t,s,d,n⟩:=Bk b e;have h:m=zs:=by
  rw[getElem?_replicate] at d;split at d<;>simp at d
  exact d.symm
 subst h;have r:p<len * size:=by have:=(List.getElem?_eq_some_iff.1 e).1;rw[o] at this;simpa using this
 simp[r] at f;rw[g] at f;have k:p % size<z.size:=aa;rw[getElem!_pos z (p % size) k] at f;exact j.2 (p % size) x v n aY
theorem sN (m:aN G c w H)(d:c.f nm=none)(a:nm+1<2 ^ 24)(t:TypeId){size:Nat}{es:List (List AV)}{arr:Array Value}{n:Nat}(l:n≤arr.size)(g:es.length * size≤n)
 (h:∀(i:Nat) e,es[i]? = some e->e.length=size)(o:∀(p:Nat) x,es.flatten[p]? = some x->∃v,arr[p]? = some v∧Rel c w x v) :
 Ext c w H (c.bind nm ⟨w.heap.size,0,n,size⟩) (w.alloc (.cells arr t)) (H.set 24 nm (some (.arr size es)))∧aN G (c.bind nm ⟨w.heap.size,0,n,size⟩) (w.alloc (.cells arr t)) (H.set 24 nm (some (.arr size es))):=by
 refine m.alloc d a t l g fun i e k=>⟨h i e k,fun j x q=>?_⟩
 have b:j<size:=by grind
 have:=(flat_get h).2 i j e k b
 grind
theorem sT {n size len cap:Nat}(b:len≤cap)(d:cap * size≤n)(a:cap≤9223372036854775807)(w':World):Rel (c.bind nm ⟨w.heap.size,0,n,size⟩) w' (.az nm 0 len size) (.slice (some ⟨w.heap.size,0,none⟩) len cap):=
 Rel.az (B:=⟨w.heap.size,0,n,size⟩) (by simp[Ctx.bind]) rfl b (fun _=>⟨ag,by grind⟩) a
theorem OR (K:bW P E)(X:aN G c w H)(z:c.f nm=none){t:TypeId}{len:Nat}{ps:List (Nat×AV)}{r:List (Nat×Value)}(hl:ps.length=r.length)
 (O:∀(i:Nat) p q,ps[i]? = some p->r[i]? = some q->p.1=q.1∧Rel c w p.2 q.2){x:bk ⊕ AV}(h:(KA E nm t len ps).run H=some x) :
 aW G c w H nm x ((Instr.buildSlice t len r.toArray).run P w):=by
 obtain⟨Z,N,h⟩:=cL h;obtain⟨d,hd,M,B⟩:=jV (K.ti t Z N);cases k:Z.desc with
 | slice e =>
   rw[k] at h B;obtain rfl:d = .slice e:=B;obtain⟨b,A,h⟩:=cL h;obtain⟨U,de,T,b1,b2,b3,b4,b5,b6,b7,b8,b9,b10,b11⟩:=(K.ti e b A).ok;obtain⟨W,h⟩:=cy h;simp only[Bool.and_eq_true] at W;have hbig:=le_of_ble_eq_true W.1;have g:0<b.size:=by simpa using W.2
   cases I:p5 b.size (replicate len b.zero) ps with
   | none=>rw[I] at h;exact(aE h).elim
   | some s =>
     rw[I] at h;obtain⟨m,rfl⟩:=jx h;have Q:∀(i:Nat) e,(replicate len b.zero)[i]? = some e->e.length=b.size:=by
      intro i e J;rw[getElem?_replicate] at J;split at J<;>simp at J
      subst J;exact b9
     obtain⟨g1,g2,Y⟩:=GG g ps _ s Q I;have o:s.length=len:=by simpa using g2
     rcases eq_zero_or_pos len with S|D
     . subst S
       have hes:s=[]:=eq_nil_of_length_eq_zero o;have L:ps=[]:=by
        cases ps with
        | nil=>rfl
        | cons p ps =>
          obtain⟨i,y⟩:=p;have hb:blt i (replicate 0 b.zero).length=false:=rfl;simp only[p5] at I
          grind
       subst L;obtain rfl:r=[]:=eq_nil_of_length_eq_zero aY;have u:(sizeOf e).run P w = .ok b.size w:=kj (K.ti e b A) w;have a:=sN X z m e (size:=b.size) (es:=s) (arr:=#[]) (n:=0) ag aY aa aY;refine⟨.slice (some ⟨w.heap.size,0,none⟩) 0 0,w.alloc (.cells #[] e),_,?_,a.1,a.2,sT (Nat.le_refl _) ag (zero_le _) _,Ctx.mV⟩;have V:Array.range 0=#[]:=rfl;simp[Instr.buildSlice,hd,u,Instr.fill,newRow,V]
     . obtain⟨l,f1,f2,_⟩:=wS (pl':=fun i=>some (i * U.size,U.size)) (c:=c) (w:=w) (fun i p hp=>by grind) ps r _ ((Array.range (len * b.size)).map (T.cells[· % T.cells.size]!)) _ hl O
        (zG (len:=len) (b8 c w) b9 g) g1
       have C:=run_buildSlice (P:=P) w t e len r.toArray l U T M b1 b7 aY (by rw[b3];have:=Nat.mul_pos D g;omega) aY
       have u:l.size=len * b.size:=by
        have:=f2.1;rw[(flat_get Y).1,o] at this
        simpa using this.symm
       have a := sN X z m e (size := b.size) (es := s) (arr := l) (n := len * b.size) aa aY Y (fun p x hp=>by
        obtain⟨v,hv,hr⟩:=f2.get hp
        grind)
       exact⟨_,_,_,C,a.1,a.2,sT (Nat.le_refl _) (Nat.le_refl _) (by have:=Nat.le_mul_of_pos_right len g;omega) _,Ctx.mV⟩
 | _=>rw[k] at h;exact(aE h).elim
theorem U_ (J:bW P E)(hw:aN G c w H)(I:c.f nm=none){t:TypeId}{l Q:AV}{V W:Value}(hl:Rel c w l V)(hc:Rel c w Q W){x:bk ⊕ AV}(h:(yH E nm t l Q).run H=some x) :
 aW G c w H nm x ((Instr.makeSlice t V W).run P w):=by
 obtain⟨R,L,h⟩:=cL h;obtain⟨d,U,hd',u⟩:=jV (J.ti t R L);cases j:R.desc with
 | slice e =>
   rw[j] at h u;obtain rfl:d = .slice e:=u;cases hl with
   | int O A =>
     cases hc with
     | int X a =>
       cases O<;>(try exact(aE h).elim)
       cases X<;>(try exact(aE h).elim)
       obtain⟨k,C,h⟩:=cL h;obtain⟨D,de,K,S,b2,b3,Z,b5,b6,b7,b8,b9,b10,Y⟩:=(J.ti e k C).ok;obtain⟨T,h⟩:=cy h;obtain⟨s,rfl⟩:=jx h;simp only[Bool.and_eq_true,decide_eq_true_eq] at T;obtain⟨⟨⟨⟨h1,h2⟩,h3⟩,h4⟩,h5⟩:=T;have m:0<k.size:=by simpa using h5
       have y:IntKind.i64.wrap A=A:=by unfold IntKind.wrap IntKind.signed IntKind.bits;simp;omega
       have z:IntKind.i64.wrap a=a:=by unfold IntKind.wrap IntKind.signed IntKind.bits;simp;omega
       have o:(typeInfo e).run P w = .ok D w:=by simp[typeInfo,S]
       have B:(sizeOf e).run P w = .ok k.size w:=kj (J.ti e k C) w;have hz:(zeroValue e).run P w = .ok K w:=by simp[zeroValue,typeInfo,S,b7]
       have hnt:¬((D.bytes:Int) * a > 2 ^ 48):=by rw[Z];omega
       have q:=sN hw I s e (size:=k.size) (es:=replicate a.toNat k.zero) (arr:=(Array.range (a.toNat * k.size)).map (K.cells[· % K.cells.size]!)) (n:=a.toNat * k.size) ag ag
        (fun i e he=>by
          grind)
        (fun p x hp=>by
          obtain⟨v,hv,hr⟩:=(zG (len:=a.toNat) (b8 c w) b9 m).get hp
          grind)
       refine⟨.slice (some ⟨w.heap.size,0,none⟩) A.toNat a.toNat,_,_,?_,q.1,q.2,sT aa (Nat.le_refl _) aa _,Ctx.mV⟩;have c1:(a<0 || decide ((D.bytes:Int) * a > 2 ^ 48))=false:=by simp;constructor<;>omega
       have g:((a<0 || decide ((D.bytes:Int) * a > 2 ^ 48)) || decide (A<0) || decide (A > a))=false:=by
        rw[c1];simp;constructor<;>omega
       rcases eq_zero_or_pos a.toNat with r|r
       . have F : a.toNat * k.size = 0 := by rw [r]; simp
         simp only[Instr.makeSlice,Sem.run_bind,U,Result.andThen_ok,asInt,asIntOf,Sem.run_pure,o,y,z,g,Bool.false_eq_true,if_false,run_askRoom,B,F,if_true,newRow,run_newObj_alloc]
         grind
       . have F : ¬ a.toNat * k.size = 0 := by have := Nat.mul_pos r m; omega
         simp only[Instr.makeSlice,Sem.run_bind,U,Result.andThen_ok,asInt,asIntOf,Sem.run_pure,o,y,z,g,Bool.false_eq_true,if_false,run_askRoom,B,F,hz,newRow,run_newObj_alloc]
     | _=>exact(by cases O<;>exact(aE h).elim)
   | _=>exact(aE h).elim
 | _=>rw[j] at h;exact(aE h).elim
end
end Go.Ago
end
