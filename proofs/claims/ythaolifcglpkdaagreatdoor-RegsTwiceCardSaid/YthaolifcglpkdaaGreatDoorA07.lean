/-
  Part A07: lemmas, each with its own conditions.
-/
import Derived.Laws.AppendOwn
import Derived.Test.YthaolifcglpkdaaGreatDoorA06
set_option maxRecDepth 100000
set_option maxHeartbeats 0
set_option linter.all false
section
namespace Go.Ago
open List Nat
section
variable {P:Program} {E:Env} {G:eZ} {c:Ctx} {w:World} {H:ai} {nm:Nat}
theorem Bl {L:List AV}{a:Addr}(h:∀(p:Nat) x,L[p]? = some x->∃v,w.cell? (a.add p)=some v∧Rel c w x v) :
 ∃us,aQ c w L us∧∀(j:Nat) v,us[j]? = some v->w.cell? (a.add j)=some v:=by
 have b:∀p,∃v,∀x,L[p]? = some x->w.cell? (a.add p)=some v∧Rel c w x v:=by
  intro p;cases e:L[p]?<;>simp_all
 let f:=fun p=>(b p).choose
 have d:∀p x,L[p]? = some x->w.cell? _=some (f p)∧Rel c w x _:=fun p=>(b p).choose_spec
 refine⟨(List.range _).map f,IZ f fun i x e=>(d i x e).2,fun j v e=>?_⟩
 have g:j<L.length:=by grind
 simp_all
structure Src (P:Program)(c:Ctx)(w:World)(size:Nat)(v:Value)(new:List (List AV))(us:List Value):Prop where
 len:∀w',(Builtin.lenOf v).run P w' = .ok new.length w'
 sz:∀(i:Nat) e,new[i]? = some e->e.length=size
 rel:aQ c w new.flatten us
 cells:∀w' n,w'.heap=w.heap->n≤new.length->(Builtin.firstCells size n v).run P w' = .ok (us.take (n * size)).toArray w'
theorem Pw {w w':World}(h:w'.heap=w.heap)(a:Addr):w'.cell? a=w.cell? a:=by unfold World.cell?;rw[h]
theorem Ld {size:Nat}{b:List (List AV)}{us:List Value}{a:Addr}{cap:Nat}(d:∀(i:Nat) e,b[i]? = some e->e.length=size)(g:aQ c w b.flatten us)
 (m:∀(j:Nat) v,us[j]? = some v->w.cell? (a.add j)=some v):Src P c w size (.slice (some a) b.length cap) b us:={
 len k:=rfl
 sz:=d
 rel:=g
 cells k n h l:=by
  have f:us.length=b.length * size:=by rw[<-g.1,(flat_get d).1]
  have:n * size≤us.length:=by rw[f];exact mul_le_mul_right _ l
  exact run_firstCells_some _ _ n a _ _ _ aY (fun j v e=>by
   rw[getElem?_take] at e;split at e
   . rw[Pw h];grind
   grind) }
theorem F7 (Z:aN G c w H){size:Nat}(hs:0<size){x:AV}{v:Value}(hx:Rel c w x v){f:List (List AV)->Rd}{r:bk ⊕ AV}(h:(rJ size x f).run H=some r) :
 ∃F us,(f F).run H=some r∧Src P c w size v F us:=by
 cases hx with
 | ah=>exact⟨[],[],h,⟨fun q=>by rfl,ag,.nil,fun q n _ _=>by simp[Builtin.firstCells]⟩⟩
 | iB=>exact⟨[],[],h,⟨fun q=>by rfl,ag,.nil,fun q n _ _=>by simp[Builtin.firstCells]⟩⟩
 | fk N =>
   obtain⟨_,g⟩:=cy h;exact⟨[],[],g,⟨fun q=>by rfl,ag,.nil,fun q n _ _=>by simp[Builtin.firstCells]⟩⟩
 | cW a=>exact⟨[],[],h,⟨fun q=>by rfl,ag,.nil,fun q n _ hn=>by
  obtain rfl:n=0:=by grind
  simp[Builtin.firstCells,loadCells,loadCellsFrom]⟩⟩
 | @ak _ _ N y I a vs J hi t hc hr =>
   obtain⟨m,g⟩:=cy h;clear h;have m:N=size:=by simpa using m
   subst m;obtain ⟨us, D, A⟩ := Bl (c := c) (w := w) (L := y.flatten) (a := a) (fun p x e=>by
    obtain⟨S,e1,e2,V,O⟩:=Bk t e;refine⟨vs (p / N) (p % N),?_,(hr _ _ S x V O).oL⟩
    grind)
   exact⟨y,us,g,Ld t D A⟩
 | @az _ _ k i d N I B a hf hsB J M hmax =>
   obtain⟨o,W,g⟩:=lL h;clear h;cases o with
   | dG _ _=>exact(aE g).elim
   | lp _ _ _ _ _=>exact(aE g).elim
   | mp _=>exact(aE g).elim
   | cm _ _=>exact(aE g).elim
   | arr K y =>
     obtain⟨m,Y⟩:=cy g;clear g;simp only[Bool.and_eq_true,beq_iff_eq] at m;obtain⟨⟨m,D⟩,A⟩:=m;have A:=le_of_ble_eq_true A;subst m;subst D;have T:=(Z.sz W hf).2.2;have t:∀(j:Nat) e,((y.drop i).take d)[j]? = some e->e.length=K:=fun j e z=>T _ e (sW i d j e z).1
     have Q:((y.drop i).take d).length=d:=by simp;omega
     rcases eq_zero_or_pos d with hz|X
     . subst hz
       have z:(y.drop i).take 0=[]:=ag;rw[z] at Y;exact⟨[],[],Y,⟨fun q=>by rfl,ag,.nil,fun q n _ hn=>by
        obtain rfl:n=0:=by grind
        simp[Builtin.firstCells,loadCells,loadCellsFrom]⟩⟩
     . obtain ⟨rfl, _⟩ := M aa
       obtain ⟨us, D, A⟩ := Bl (c := c) (w := w) (L := ((y.drop i).take d).flatten) (a := ⟨B.b, B.s + i * K, none⟩) (fun p x e=>by
        obtain⟨S,e1,e2,V,O⟩:=Bk t e;obtain⟨v,v1,_,v2⟩:=Z.cell W hf (sW i d _ S V).1 O;refine⟨v,?_,v2⟩;rw[add_plain,<-v1]
        grind)
       have hsrc:=Ld (P:=P) (cap:=I) t D A
       grind
 | str l =>
   obtain⟨m,g⟩:=cy h;clear h;have m:size=1:=by simpa using m
   subst m;have t:∀(i:Nat) e,(l.map fun b=>[AV.int .u8 b.toNat])[i]? = some e->e.length=1:=by
    intro i e z;simp only[getElem?_map,Option.map_eq_some_iff] at z;obtain⟨b,_,rfl⟩:=z;rfl
   have U:∀l:List UInt8,(l.map fun b=>[AV.int .u8 (b.toNat:Int)]).flatten=l.map fun b=>AV.int .u8 (b.toNat:Int):=by
    intro l
    induction l with
    | nil=>rfl
    | cons b l ih=>grind
   have u:(⟨l.toArray⟩:ByteArray).size=l.length:=by simp[ByteArray.size]
   refine⟨_,l.map fun b=>Value.int .u8 b.toNat,g,⟨fun q=>by simp[Builtin.lenOf,u],t,?_,fun q n _ hn=>?_⟩⟩
   . rw [U]
     refine⟨ag,fun i x v e e'=>?_⟩
     simp only[getElem?_map,Option.map_eq_some_iff] at e e';obtain⟨b,hb,rfl⟩:=e;obtain⟨b',C,rfl⟩:=e';rw[hb] at C;cases C;exact .int _ _
   . simp only [Builtin.firstCells, Sem.run_pure]
     simp
 | _=>exact(aE h).elim
theorem E5 {n b:Nat}(h:n * (b+1)≤140737488355328):n≤140737488355328∧n * b≤140737488355328:=by
 grind
section app
variable {t e tx:TypeId} {dx:TypeDesc} {ie:TypeInfo} {z:Value} {size:Nat} {x:Value} {new:List (List AV)} {us:List Value}
 (ht:P.underlying t=some (.slice e)) (htx:P.underlying tx=some dx) (hdx:∀k,dx≠.int k) (hie:P.info? e=some ie) (hsz:ie.size=size) (hz:ie.zero=some z) (hsrc:Src P c w size x new us)
include ht htx hdx hie hsz hsrc
theorem EL (ty:TypeId)(d:Option Addr)(b f:Nat)(l:b+new.length≤f) :
 (Builtin.append_ #[t,tx] ty #[.slice d b f,x]).run P w =
  match d with
  | some a=>((storeCells (a.add (b * size)) us).run P w).andThen fun _ w' => .ok (.slice d (b+new.length) f) w'
  | none => .ok (.slice d (b+new.length) f) w:=by
 have j:=fun w=>run_underlying htx w
 have m:=hsrc.cells w new.length rfl (Nat.le_refl _);have q:us.length=new.length * size:=by rw[<-hsrc.rel.1,(flat_get hsrc.sz).1]
 rw[take_of_length_le aa] at m;have g:(sizeOf e).run P w = .ok size w:=by simp[sizeOf,typeInfo,hie,hsz]
 simp only[Builtin.append_,getElem?_toArray,getElem?_cons_zero,getElem?_cons_succ,Sem.run_bind,run_underlying ht,Result.andThen_ok,g,j,Sem.run_pure,Bool.false_eq_true,if_false,hsrc.len,l,if_true,Bool.not_false,m];cases d<;>simp
include hz
theorem EK (ty:TypeId)(i:Option Addr)(a b:Nat)(m:¬a+new.length≤b){j:List Value}(r:∀w',w'.heap=w.heap->(Builtin.firstCells size a (.slice i a b)).run P w' = .ok j.toArray w')
 (y:(a+new.length) * (ie.bytes+1)≤140737488355328) :
 (Builtin.append_ #[t,tx] ty #[.slice i a b,x]).run P w =
  .ok (.slice (some ⟨w.heap.size,0,none⟩) (a+new.length) (grownCap w (a+new.length) b e))
   (w.drew.alloc (.cells (j.toArray++us.toArray++Builtin.zeroCells z.cells (grownCap w (a+new.length) b e - (a+new.length))) e)):=by
 have h:=fun w=>run_underlying htx w
 have q:=hsrc.cells w.drew new.length rfl (Nat.le_refl _);have B:us.length=new.length * size:=by rw[<-hsrc.rel.1,(flat_get hsrc.sz).1]
 rw[take_of_length_le aa] at q;have g:∀w,(sizeOf e).run P w = .ok size w:=fun w=>by simp[sizeOf,typeInfo,hie,hsz]
 have l:∀w,(typeInfo e).run P w = .ok ie w:=fun w=>by simp[typeInfo,hie]
 have n:∀w,(zeroValue e).run P w = .ok z w:=fun w=>by simp[zeroValue,typeInfo,hie,hz]
 obtain⟨C,u⟩:=E5 y;have p:¬(((a+new.length:Nat):Int) > IntKind.i64.max):=by simp;omega
 have A:=growslice_fits (old:=b) aa u;have s:¬(Builtin.nextslicecap (a+new.length) b * ie.bytes > 2 ^ 48):=by simp;omega
 have I:=r w.drew rfl;simp only[Builtin.append_,getElem?_toArray,getElem?_cons_zero,getElem?_cons_succ,Sem.run_bind,run_underlying ht,Result.andThen_ok,g,h,Sem.run_pure,Bool.false_eq_true,if_false,hsrc.len,m,Bool.not_false,if_true,
  l,p,false_and,s,run_choose,Question.forced,run_askRoom,World.drew_eq,I,q,n,newRow,run_newObj_alloc,World.size_drew]
 rfl
end app
theorem N0 (hE:bW P E)(hw:aN G c w H)(L:c.f nm=none){t T ty e:TypeId}{kx:IntKind}{s y:AV}{v u:Value}(t2:P.underlying t=some (.slice e))(x2:P.underlying T=some (.int kx))(hs:Rel c w s v)(hy:Rel c w y u){r:bk ⊕ AV}
 (h:(yz E nm e s y).run H=some r):aW G c w H nm r ((Builtin.append_ #[t,T] ty #[v,u]).run P w):=by
 obtain⟨a,O,h⟩:=cL h;obtain⟨K,de,z,S,b2,b3,b4,b5,b6,b7,Y,Z,b10,b11⟩:=(hE.ti e a O).ok;cases hs with
 | ah =>
   cases hy with
   | int ky n =>
     cases ky<;>(try exact(aE h).elim)
     obtain⟨X,h⟩:=cy h;obtain⟨Q,h⟩:=cy h;obtain⟨A,rfl⟩:=jx h;simp only[Bool.and_eq_true] at X Q;have g:0<a.size:=by simpa using X.1
     have hn:0<n.toNat:=by simpa using Q.1
     have hb:=le_of_ble_eq_true Q.2;obtain⟨hb1,N⟩:=E5 hb;have M:IntKind.i64.wrap n=n:=by unfold IntKind.wrap IntKind.signed IntKind.bits;simp;omega
     have J:z.cells.size=a.size:=by have:=(Y c w).1;rw[Z] at this;simpa using this.symm
     have b:∀w,(sizeOf e).run P w = .ok a.size w:=fun w=>by simp[sizeOf,typeInfo,S,b3]
     have l:∀w,(typeInfo e).run P w = .ok K w:=fun w=>by simp[typeInfo,S]
     have m:∀w,(zeroValue e).run P w = .ok z w:=fun w=>by simp[zeroValue,typeInfo,S,b7]
     have B:¬(((0+n.toNat:Nat):Int) > IntKind.i64.max):=by simp[IntKind.max,IntKind.signed,IntKind.bits];omega
     have q:n.toNat * K.bytes≤140737488355328:=by rw[b4];exact N
     have R:=growslice_fits (old:=0) (need:=0+n.toNat) aa (by simpa using q)
     have D:¬(Builtin.nextslicecap (0+n.toNat) 0 * K.bytes > 2 ^ 48):=by simp at R ⊢;omega
     have F:¬n<0:=aa;have U:¬n.toNat * a.size=0:=by have:=Nat.mul_pos hn g;omega
     have C:¬n * (K.bytes:Int) > 2 ^ 48:=by
      have:((n.toNat * K.bytes:Nat):Int)≤(140737488355328:Nat):=Int.ofNat_le.2 q;rw[Int.natCast_mul,Int.toNat_of_nonneg aa] at this;omega
     have o:¬(0+n.toNat≤0):=aa;have d:∀V,(Builtin.firstCells a.size 0 (.slice none 0 0)).run P V = .ok #[] V:=by intro V;simp[Builtin.firstCells]
     have I:(Builtin.append_ #[t,T] ty #[.slice none 0 0,.int .i64 n]).run P w =
      .ok (.slice (some ⟨w.heap.size,0,none⟩) (0+n.toNat) (grownCap w (0+n.toNat) 0 e))
       (w.drew.alloc (.cells (#[]++Builtin.zeroCells z.cells n.toNat++Builtin.zeroCells z.cells (grownCap w (0+n.toNat) 0 e - (0+n.toNat))) e)):=by
      simp only[Builtin.append_,getElem?_toArray,getElem?_cons_zero,getElem?_cons_succ,Sem.run_bind,run_underlying t2,run_underlying x2,Result.andThen_ok,b,Sem.run_pure,if_true,asInt,asIntOf,M,F,if_false,l,C,o,
       Bool.not_true,Bool.false_eq_true,U,B,false_and,D,run_choose,Question.forced,run_askRoom,World.drew_eq,d,m,newRow,run_newObj_alloc,World.size_drew]
      rfl
     rw[I];have hge:=grownCap_ge w (0+n.toNat) 0 e;have j:=sN hw.drew L A e (size:=a.size) (es:=replicate n.toNat a.zero) (arr:=#[]++Builtin.zeroCells z.cells n.toNat++Builtin.zeroCells z.cells (grownCap w (0+n.toNat) 0 e - (0+n.toNat)))
      (n := grownCap w (0 + n.toNat) 0 e * a.size) (by
       simp only[Array.size_append,size_toArray,length_nil,size_zeroCells,J,Nat.zero_add,<-Nat.add_mul]
       grind) (mul_le_mul_right _ aY) (fun i e he=>by
       grind) (fun p x hp=>by
       obtain⟨v,hv,hr⟩:=(zG (len:=n.toNat) (Y c w) Z g).get hp;have hz:((Array.range (n.toNat * a.size)).map (z.cells[· % z.cells.size]!))=Builtin.zeroCells z.cells n.toNat:=by simp[Builtin.zeroCells,J]
       rw[hz] at hv;have W:(Builtin.zeroCells z.cells n.toNat)[p]? = some v:=by rw[<-Array.getElem?_toList];exact hv
       have hpl:=(Array.getElem?_eq_some_iff.1 W).1;refine⟨v,?_,hr.drew⟩
       grind)
     refine⟨_,_,_,rfl,(Ext.yg c w H).trans j.1,j.2,?_,Ctx.mV⟩;have:=sT (c:=c) (nm:=nm) (w:=w.drew) (n:=grownCap w (0+n.toNat) 0 e * a.size) (size:=a.size) (len:=n.toNat) (cap:=grownCap w (0+n.toNat) 0 e) aa (Nat.le_refl _) (Nat.le_trans (grownCap_le_maxLen _ _ _ _ (by simp only[maxLen];omega)) ab)
      (w.drew.alloc (.cells (#[]++Builtin.zeroCells z.cells n.toNat++Builtin.zeroCells z.cells (grownCap w (0+n.toNat) 0 e - (0+n.toNat))) e))
     simp_all
   | _=>exact(aE h).elim
 | _=>exact(aE h).elim
theorem Pp (l:bW P E)(m:aN G c w H){t ty:TypeId}{x:AV}{v:Value}(n:Rel c w x v){r:bk ⊕ AV}(h:(KB E t x).run H=some r):aW G c w H nm r ((Builtin.cap_ #[t] ty #[v]).run P w):=by
 obtain⟨i,b,h⟩:=cL h;obtain⟨_,d,_,_,k,_,_,_,j,_⟩:=(l.ti t i b).ok;cases a:i.desc with
 | slice e =>
   rw[a] at h j;obtain rfl:d = .slice e:=j;cases n with
   | ah =>
     obtain rfl:=bw h;rw[show(Builtin.cap_ #[t] ty #[.slice none 0 0]).run P w = .ok (goInt 0) w by
      simp only[Builtin.cap_,getElem?_toArray,getElem?_cons_zero,Sem.run_bind,run_underlying k,Result.andThen_ok,Sem.run_pure];rfl]
     exact aW.quiet m (.int _ _)
   | _=>exact(aE h).elim
 | _=>rw[a] at h;exact(aE h).elim
theorem zat {c:Ctx}{w:World}{z:Array Value}{a:List AV}{size len:Nat}(f:aQ c w a z.toList)(g:a.length=size)(b:0<size):aQ c w (replicate len a).flatten (Builtin.zeroCells z len).toList:=by
 have:=zG (len:=len) f g b;have d:z.size=size:=by have:=f.1;grind
 have e:((Array.range (len * size)).map (z[· % z.size]!))=Builtin.zeroCells z len:=by simp[Builtin.zeroCells,d]
 grind
theorem P2 (hE:bW P E)(Q:aN G c w H){t ty:TypeId}{x:AV}{v:Value}(O:Rel c w x v){r:bk ⊕ AV}(h:(yC E t x).run H=some r):aW G c w H nm r ((Builtin.clear_ #[t] ty #[v]).run P w):=by
 obtain⟨ti,U,h⟩:=cL h;obtain⟨_,d,_,_,d2,_,_,_,d6,_⟩:=(hE.ti t ti U).ok;cases n:ti.desc with
 | slice e =>
   rw[n] at h d6;obtain rfl:d = .slice e:=d6;cases O with
   | @az _ _ k i b sz cap B a hf hsB hlen I hmax =>
     obtain⟨f,Z,h⟩:=cL h;obtain⟨ie,de,z,b1,b2,b3,b4,b5,b6,b7,b8,b9,b10,b11⟩:=(hE.ti e f Z).ok;obtain⟨o,ho,h⟩:=lL h;cases o with
     | dG _ _=>exact(aE h).elim
     | lp _ _ _ _ _=>exact(aE h).elim
     | mp _=>exact(aE h).elim
     | cm _ _=>exact(aE h).elim
     | arr sz' m =>
       obtain⟨h0,h⟩:=cy h;obtain⟨h1,h⟩:=cy h;obtain⟨s,rfl⟩:=jx h;simp only[Bool.and_eq_true,beq_iff_eq] at h0;obtain⟨⟨⟨q1,q2⟩,rfl⟩,rfl⟩:=h0;have K:0<f.size:=by simpa using q1
       have W:=le_of_ble_eq_true h1;obtain⟨hB,X,C⟩:=Q.sz ho hf;have u:∀w,(zeroValue e).run P w = .ok z w:=fun w=>by simp[zeroValue,typeInfo,b1,b7]
       have p:∀{c w},Rel c w (.ao []) (.tuple #[]):=fun {c w}=>Rel.ao (vs:=[]) rfl ag
       rcases eq_zero_or_pos b with h00|hpl
       . subst h00
         have hH:∀j,(bk.dH H [(k,some (.arr f.size (m.take i++replicate 0 f.zero++m.drop (i+0))))]).get j=H.get j:=by
          intro j;simp only[bk.dH,replicate_zero,append_nil,Nat.add_zero,take_append_drop];rw[Tr.eP 24 k _ H j s]
          by_cases hj:j=k
          . grind
          . grind
         rw[show(Builtin.clear_ #[t] ty #[.slice (some a) 0 cap]).run P w = .ok (.tuple #[]) w by
          simp only[Builtin.clear_,getElem?_toArray,getElem?_cons_zero,Sem.run_bind,run_underlying d2,Result.andThen_ok,Sem.run_pure]]
         exact⟨.tuple #[],w,c,rfl,(Ext.refl c w H).congr (fun _=>rfl) hH,Q.congr hH,p,fun _ _=>rfl⟩
       . obtain ⟨rfl, hBcap⟩ := I aa
         have R:=zat (len:=b) (b8 c w) b9 K;have S:(replicate b f.zero).flatten.length=b * f.size:=by
          rw[(flat_get (sz:=f.size) (fun j N g=>by grind)).1];simp
         have V:∀(j:Nat) (q:Nat) (x:List AV),(replicate b f.zero)[j]? = some x->x=f.zero∧j<b:=by
          intro j _ x g;rw[getElem?_replicate] at g;split at g<;>simp at g
          rename_i hh;exact⟨g.symm,hh⟩
         have hes':(m.take i++replicate b f.zero++m.drop (i+b)).length=m.length:=by simp;omega
         have J:∀j,(m.take i++replicate b f.zero++m.drop (i+b))[j]? = if j<i then m[j]? else if j<i+b then some f.zero else m[j]?:=by
          intro j;have e1:(m.take i).length=i:=by simp;omega
          by_cases A:j<i
          . grind
          . rw [if_neg A]
            by_cases Y:j<i+b
            . grind
            . rw [if_neg Y, getElem?_append_right aY, getElem?_drop]
              grind
         obtain ⟨w', F, D, hw'⟩ := Q.store (es' := m.take i ++ replicate b f.zero ++ m.drop (i + b)) ho hf s (i * f.size) R (fun x O=>by
          obtain⟨l,qf,hl2⟩:=mem_flatten.1 O
          grind) (by rw[S,<-Nat.add_mul];exact Nat.le_trans (mul_le_mul_right _ W) X) aY
          (fun j N g=>by
            rw[J j] at g
            grind)
          (fun j q N x g hq=>by
            rw[J j] at g;have L:∀y:List AV,y.length=f.size->y[q]? = some x->q<f.size:=fun y h1 h2=>by grind
            split at g
            . rename_i A
              have M:=L N (C _ _ g) hq;have:(j+1) * f.size≤i * f.size:=mul_le_mul_right _ A
              grind
            . split at g
              . rename_i A Y
                cases g;have M:=L f.zero b9 hq
                right;left
                have e1:j * f.size=i * f.size+(j - i) * f.size:=by rw[<-Nat.add_mul];congr 1;omega
                have e2:(j - i+1) * f.size≤b * f.size:=mul_le_mul_right _ aa;rw[Nat.add_mul] at e2;refine⟨aa,aa,?_⟩;rw[show j * f.size+q - i * f.size=(j - i) * f.size+q by omega]
                rw[(flat_get (sz:=f.size) (es:=replicate b f.zero) (fun j N g=>by grind)).2 (j - i) q f.zero aY M]
                exact hq
              . rename_i A Y
                right;right
                have:(i+b) * f.size≤j * f.size:=mul_le_mul_right _ aa
                grind) P
         have hl0:b≠0:=aa;refine⟨.tuple #[],w',c,?_,D,hw',p,fun _ _=>rfl⟩
         obtain⟨len',rfl⟩:∃l,b=l+1:=⟨b - 1,aa⟩;simp only[Builtin.clear_,getElem?_toArray,getElem?_cons_zero,Sem.run_bind,run_underlying d2,Result.andThen_ok,u,F,Sem.run_pure]
   | _=>exact(aE h).elim
 | _=>rw[n] at h;cases O<;>exact(aE h).elim
theorem NZ (hE:bW P E)(hw:aN G c w H)(hnm:c.f nm=none){t tx ty:TypeId}{s y:AV}{v u:Value}(hs:Rel c w s v)(hy:Rel c w y u){r:bk ⊕ AV}(h:(qK E nm t tx s y).run H=some r) :
 aW G c w H nm r ((Builtin.append_ #[t,tx] ty #[v,u]).run P w):=by
 obtain⟨ti,hti,h1⟩:=cL h;obtain⟨tix,htix,h2⟩:=cL h1;clear h h1;obtain⟨_,d,_,_,t2,_,_,_,t6,_⟩:=(hE.ti t ti hti).ok;obtain⟨_,dx,_,_,x2,_,_,_,x6,_⟩:=(hE.ti tx tix htix).ok;cases hdesc:ti.desc<;>rw[hdesc] at h2 t6<;>(try exact(aE h2).elim)
 rename_i e;obtain rfl:d = .slice e:=t6
 by_cases hint:∃k,tix.desc = .int k
 . obtain ⟨kx, hk⟩ := hint
   rw[hk] at h2 x6;obtain rfl:dx = .int kx:=x6;exact N0 hE hw hnm t2 x2 hs hy h2
 have key:(yA E nm e s y).run H=some r∧∀k,dx≠.int k:=by
  cases U:tix.desc<;>rw[U] at h2 x6<;>(try exact(hint ⟨_,U⟩).elim)<;>(try exact(aE h2).elim)
  . refine ⟨h2, ?_⟩
    obtain rfl:dx = .slice _:=x6;simp
  . refine ⟨h2, ?_⟩
    obtain rfl:dx = .string:=x6;simp
 obtain⟨h3,U⟩:=key;obtain⟨A,hte,h4⟩:=cL h3;clear h3;obtain⟨ie,de,z,b1,b2,b3,b4,b5,b6,b7,b8,b9,b10,b11⟩:=(hE.ti e A hte).ok;obtain⟨W,h5⟩:=cy h4;clear h4;have W:0<A.size:=by simpa using W
 obtain⟨l,us,h6,C⟩:=F7 (P:=P) hw W hy h5;clear h5;have hul:us.length=l.length * A.size:=by rw[<-C.rel.1,(flat_get C.sz).1]
 rcases sP h6 with⟨hb,h7⟩|⟨hb,h7⟩
 . -- nothing is appended
   have hn0:l.length=0:=eq_of_beq_eq_true hb;have hu0:us=[]:=eq_nil_of_length_eq_zero aY;have done:∀(D:Option Addr) (Q T:Nat),Q≤T->(Builtin.append_ #[t,tx] ty #[.slice D Q T,u]).run P w = .ok (.slice D Q T) w:=by
    intro D Q T hle;rw[EL (P:=P) t2 x2 U b1 b3 C ty D Q T aa];cases D<;>simp[hu0,hn0,storeCells]
   cases hs with
   | ah=>obtain rfl:=bw h7;rw[done none 0 0 (Nat.le_refl _)];exact aW.quiet hw .ah
   | iB=>obtain rfl:=bw h7;rw[done none 0 0 (Nat.le_refl _)];exact aW.quiet hw .iB
   | fk sz=>obtain rfl:=bw h7;rw[done none 0 0 (Nat.le_refl _)];exact aW.quiet hw (.fk sz)
   | cW a=>obtain rfl:=bw h7;rw[done (some a) 0 0 (Nat.le_refl _)];exact aW.quiet hw (.cW a)
   | az hf hsB J X V=>obtain rfl:=bw h7;rw[done _ _ _ J];exact aW.quiet hw (.az hf hsB J X V)
   | ak vs J hi hl hc hr=>obtain rfl:=bw h7;rw[done _ _ _ J];exact aW.quiet hw (.ak vs J hi hl hc hr)
   | _=>exact(aE h7).elim
 . have hn0:0<l.length:=by
    rcases eq_zero_or_pos l.length with h0|h0
    . simp_all
    . exact h0
   obtain⟨hone,h8⟩:=cy h7;clear h7 h6;have hone':∀x∈l.flatten,x.one=true:=by
    intro x hx;obtain⟨el,M,hxe⟩:=mem_flatten.1 hx;have:=all_eq_true.1 hone el M;exact all_eq_true.1 this x hxe
   have fresh:∀(D:Option Addr),ble (l.length * (A.bytes+1)) 140737488355328=true->nm+1<2 ^ 24->
    aW G c w H nm (.inl ⟨.az nm 0 l.length A.size,[(nm,some (.arr A.size l))]⟩) ((Builtin.append_ #[t,tx] ty #[.slice D 0 0,u]).run P w):=by
    intro D hbl F;have hbl:=le_of_ble_eq_true hbl;have hgb:∀e,grownCap w (0+l.length) 0 e≤9223372036854775807:=fun e=>Nat.le_trans (grownCap_le_maxLen _ _ _ _ (by have Z:=Nat.le_mul_of_pos_right l.length (show 0<A.bytes+1 from succ_pos _);simp only[maxLen];omega)) ab
    have hfirst:∀w',w'.heap=w.heap->(Builtin.firstCells A.size 0 (.slice D 0 0)).run P w' = .ok ([]:List Value).toArray w':=by
     intro w' _;cases D<;>simp[Builtin.firstCells,loadCells,loadCellsFrom]
    have R:=EK (P:=P) t2 x2 U b1 b3 b7 C ty D 0 0 aa hfirst aY;rw[R];have hge:=grownCap_ge w (0+l.length) 0 e;have hzs:z.cells.size=A.size:=by have:=(b8 c w).1;rw[b9] at this;simpa using this.symm
    have Y:=sN (hw.drew) hnm F e (size:=A.size) (es:=l) (arr:=([]:List Value).toArray++us.toArray++Builtin.zeroCells z.cells (grownCap w (0+l.length) 0 e - (0+l.length)))
     (n := grownCap w (0 + l.length) 0 e * A.size) (by
      simp only[Array.size_append,size_toArray,length_nil,size_zeroCells,hzs,hul,Nat.zero_add,<-Nat.add_mul]
      grind) (mul_le_mul_right _ aa) C.sz (fun p x hp=>by
      obtain⟨v,hv,hr⟩:=C.rel.get hp;refine⟨v,?_,hr.drew⟩
      grind)
    refine⟨_,_,_,rfl,(Ext.yg c w H).trans Y.1,Y.2,?_,Ctx.mV⟩;have:=sT (c:=c) (nm:=nm) (w:=w.drew) (n:=grownCap w (0+l.length) 0 e * A.size) (size:=A.size) (len:=l.length) (cap:=grownCap w (0+l.length) 0 e) aa (Nat.le_refl _) (hgb _)
     (w.drew.alloc (.cells (([]:List Value).toArray++us.toArray++Builtin.zeroCells z.cells (grownCap w (0+l.length) 0 e - (0+l.length))) e))
    simpa using this
   cases hs with
   | ah =>
     obtain⟨hbl,Z⟩:=cy h8;obtain⟨F,rfl⟩:=jx Z
     grind
   | iB =>
     obtain⟨hbl,Z⟩:=cy h8;obtain⟨F,rfl⟩:=jx Z
     grind
   | cW a =>
     obtain⟨hbl,Z⟩:=cy h8;obtain⟨F,rfl⟩:=jx Z
     grind
   | @az _ _ k i g sz I B a hf hsB J X V =>
     obtain⟨o,ho,Z⟩:=lL h8;cases o with
     | dG _ _=>exact(aE Z).elim
     | lp _ _ _ _ _=>exact(aE Z).elim
     | mp _=>exact(aE Z).elim
     | cm _ _=>exact(aE Z).elim
     | arr sz' L =>
       obtain⟨hq,h10⟩:=cy Z;obtain rfl:=bw h10;clear h8 Z h10;simp only[Bool.and_eq_true,beq_iff_eq] at hq;obtain⟨⟨⟨⟨⟨q1,q2⟩,q3⟩,q4⟩,q5⟩,q6⟩:=hq;have q3:=le_of_ble_eq_true q3;have q4:=le_of_ble_eq_true q4;have q5:=le_of_ble_eq_true q5;have q6:=le_of_ble_eq_true q6;subst q1;subst q2;obtain⟨hB,hBn,hels⟩:=hw.sz ho hf;have F:k+1<2 ^ 24:=aa;have hn24:nm+1<2 ^ 24:=aa;have cF:nm≠k:=by rintro rfl;rw[hf] at hnm;cases hnm
       have K:((L.drop i).take g).length=g:=by simp;omega
       have hupd:bk.dH H [(k,none),(nm,some (.arr A.size ((L.drop i).take g++l)))]=(H.set 24 k none).set 24 nm (some (.arr A.size ((L.drop i).take g++l))):=rfl;have hcatl:∀(j:Nat) e,((L.drop i).take g++l)[j]? = some e->e.length=A.size:=by
        intro j el M
        by_cases hj:j<g
        . grind
        . rw [getElem?_append_right aa] at M
          exact C.sz _ el M
       by_cases O:g+l.length≤I
       . -- in place
         obtain⟨rfl,hBcap⟩:=X aa;rw[EL (P:=P) t2 x2 U b1 b3 C ty _ g I O];dsimp only;rw[add_plain];have hx1:i * A.size+(g * A.size+l.length * A.size)≤B.n:=by
          have:(i+(g+l.length)) * A.size≤(i+I) * A.size:=mul_le_mul_right _ aa;rw[Nat.add_mul,Nat.add_mul] at this;omega
         have hfl:=(flat_get C.sz).1;have hcut:∀(j:Nat),j<i+g->(L.take (i+g))[j]? = L[j]?:=fun j hj=>by grind
         have hes':(L.take (i+g)++l).length=i+g+l.length:=by simp;omega
         have htl:(L.take (i+g)).length=i+g:=by simp;omega
         obtain⟨w',R,hext,hw'⟩:=hw.store (es':=L.take (i+g)++l) ho hf F ((i+g) * A.size) C.rel hone' aY
          (by rw[hes',Nat.add_assoc,Nat.add_mul,Nat.add_mul];omega)
          (fun j el M=>by
            by_cases hj:j<i+g
            . grind
            . rw[getElem?_append_right aa] at M;exact C.sz _ el M)
          (fun j q el x M hq=>by
            by_cases hj:j<i+g
            . rw [getElem?_append_left aa, hcut j hj] at M
              left
              have hqs:q<A.size:=by have:=(List.getElem?_eq_some_iff.1 hq).1;rw[hels _ el M] at this;exact this
              have:(j+1) * A.size≤(i+g) * A.size:=mul_le_mul_right _ hj
              grind
            . rw [getElem?_append_right aa, htl] at M
              right;left
              have hqs:q<A.size:=by have:=(List.getElem?_eq_some_iff.1 hq).1;rw[C.sz _ el M] at this;exact this
              have hjn:j - (i+g)<l.length:=(List.getElem?_eq_some_iff.1 M).1;have e1:j * A.size=(i+g) * A.size+(j - (i+g)) * A.size:=by rw[<-Nat.add_mul];congr 1;omega
              have e2:(j - (i+g)+1) * A.size≤l.length * A.size:=mul_le_mul_right _ hjn;rw[Nat.add_mul] at e2;refine⟨aa,aa,?_⟩;rw[show j * A.size+q - (i+g) * A.size=(j - (i+g)) * A.size+q by omega]
              rw[(flat_get C.sz).2 _ q el M hqs];exact hq) P
         have haddr:(⟨B.b,B.s+i * A.size+g * A.size,none⟩:Addr)=⟨B.b,B.s+(i+g) * A.size,none⟩:=by
          rw[Nat.add_mul,Nat.add_assoc]
         rw[haddr,R,Result.andThen_ok];have hren:=hw'.rename (k:=k) (k':=nm) F hn24 hnm (by rw[Tr.eP 24 k _ H k F,if_pos rfl]) hf i (I * A.size) aY
          (es' := (L.drop i).take g ++ l) (by rw [length_append, K]; exact mul_le_mul_right _ O) (fun j el M=>by
           by_cases hj:j<g
           . grind
           . rw [getElem?_append_right aa, K] at M
             rw[getElem?_append_right aa,htl,show i+j - (i+g)=j - g by omega]
             exact M)
         have hH:∀j,(((H.set 24 k (some (.arr A.size (L.take (i+g)++l)))).set 24 k none).set 24 nm (some (.arr A.size ((L.drop i).take g++l)))).get j =
          ((H.set 24 k none).set 24 nm (some (.arr A.size ((L.drop i).take g++l)))).get j:=by
          intro j;simp only[Tr.eP 24 _ _ _ _ F,Tr.eP 24 _ _ _ _ hn24]
          by_cases h1:j=nm<;>by_cases h2:j=k<;>simp[h1,h2]
         refine⟨_,w',c.bind nm ⟨B.b,B.s+i * A.size,I * A.size,A.size⟩,rfl,?_,?_,?_,Ctx.mV⟩
         . rw[hupd];exact(hext.trans hren.1).congr (fun _=>rfl) (fun j=>(hH j).symm)
         . rw[hupd];exact hren.2.congr (fun j=>(hH j).symm)
         . refine Rel.az (B:=⟨B.b,B.s+i * A.size,I * A.size,A.size⟩) (by simp[Ctx.bind]) rfl O (fun _=>⟨ag,ag⟩) V
       . -- a new row
         obtain⟨S,ho1,ho2⟩:∃S:List Value,(∀w',w'.heap=w.heap->(Builtin.firstCells A.size g (.slice (some a) g I)).run P w' = .ok S.toArray w')∧aQ c w ((L.drop i).take g).flatten S:=by
          rcases eq_zero_or_pos g with h0|h0
          . subst h0
            exact⟨[],fun w' _=>by simp[Builtin.firstCells,loadCells,loadCellsFrom],by simpa using aQ.nil⟩
          . obtain ⟨new', us', hX, N⟩ := F7 (P := P) (f := fun L => .ret ⟨.ak 0 L, []⟩) (r := .inl ⟨.ak 0 ((L.drop i).take g), []⟩) hw W (Rel.az (len := g) (cap := I) (i := i) (a := a) hf hsB J X V) (by
             have h1:(A.size == A.size && A.size == A.size && ble (i+g) L.length)=true:=by
              rw[ble_eq_true_of_le q3];simp
             simp only[rJ,Rd.run,ho,ke,h1])
            have hnew:new'=(L.drop i).take g:=by
             have:=bw hX
             injection this with this
             injection this with this
             injection this with _ this
             exact this.symm
            subst hnew;refine⟨us',fun w' hh=>?_,N.rel⟩
            have:=N.cells w' g hh aa
            rwa [take_of_length_le (by rw[<-N.rel.1,(flat_get N.sz).1,K];simp)] at this
         have R:=EK (P:=P) t2 x2 U b1 b3 b7 C ty (some a) g I O ho1 aY;rw[R];have hge:=grownCap_ge w (g+l.length) I e;have hzs:z.cells.size=A.size:=by have:=(b8 c w).1;rw[b9] at this;simpa using this.symm
         have hol:S.length=g * A.size:=by
          have:=ho2.1;rw[(flat_get (fun j el M=>hels _ el (sW i g j el M).1)).1,K] at this
          exact this.symm
         have hdrop:=hw.drew.drop k F;have Y:=sN hdrop.2 hnm hn24 e (size:=A.size) (es:=(L.drop i).take g++l) (arr:=S.toArray++us.toArray++Builtin.zeroCells z.cells (grownCap w (g+l.length) I e - (g+l.length)))
          (n := grownCap w (g + l.length) I e * A.size) (by
           simp only[Array.size_append,size_toArray,size_zeroCells,hzs,hul,hol,<-Nat.add_mul]
           grind) (by rw [length_append, K]; exact mul_le_mul_right _ hge) hcatl (fun p x hp=>by
           rw[flatten_append] at hp;obtain⟨v,hv,hr⟩:=(ho2.append C.rel).get hp;refine⟨v,?_,hr.drew⟩
           grind)
         refine⟨_,_,c.bind nm ⟨w.heap.size,0,grownCap w (g+l.length) I e * A.size,A.size⟩,rfl,?_,?_,?_,Ctx.mV⟩
         . rw[hupd];exact((Ext.yg c w H).trans hdrop.1).trans Y.1
         . simp_all
         . exact sT (c:=c) (nm:=nm) (w:=w.drew) (n:=grownCap w (g+l.length) I e * A.size) (size:=A.size) (len:=g+l.length) (cap:=grownCap w (g+l.length) I e) hge (Nat.le_refl _) (Nat.le_trans (grownCap_le_maxLen _ _ _ _ (by have Z:=Nat.le_mul_of_pos_right (g+l.length) (show 0<A.bytes+1 from succ_pos _);simp only[maxLen];omega)) ab) _
   | _=>exact(aE h8).elim
theorem XK {w:World}{r:Nat}{s:ByteArray}{p:Nat}(a:w.heap[r]? = some (.stringIter s p))(o:Obj):(setObj r o).run P w = .ok () { w with heap:=w.heap.setIfInBounds r o }:=by
 simp[setObj,Sem.run,a]
theorem Kj {w:World}{r:Nat}{s:ByteArray}{p:Nat}(a:w.heap[r]? = some (.stringIter s p)):(getObj r).run P w = .ok (.stringIter s p) w:=by
 simp[getObj,Sem.run,a]
theorem run_getObj_map {w:World}{r:Nat}{es:Array MapEntry}{k:Nat}(a:w.heap[r]? = some (.map es k)):(getObj r).run P w = .ok (.map es k) w:=by
 simp[getObj,Sem.run,a]
theorem run_setObj_map {w:World}{r:Nat}{es:Array MapEntry}{k:Nat}(a:w.heap[r]? = some (.map es k))(o:Obj):(setObj r o).run P w = .ok () { w with heap:=w.heap.setIfInBounds r o }:=by
 simp[setObj,Sem.run,a]
theorem Xd (Q:bW P E)(K:aN G c w H)(q:c.f nm=none){t:TypeId}{x:AV}{v:Value}(D:Rel c w x v){r:bk ⊕ AV}(h:(KJ E nm t x).run H=some r):aW G c w H nm r ((Instr.range t v).run P w):=by
 obtain⟨L,J,h⟩:=cL h;obtain⟨_,d,_,_,O,_,_,_,z,_⟩:=(Q.ti t L J).ok;cases g:L.desc with
 | string =>
   rw[g] at h z;obtain rfl:d = .string:=z;cases D with
   | str s =>
     obtain⟨j,rfl⟩:=jx h;obtain⟨F,C⟩:=K.vJ (k:=nm) q j (.stringIter ⟨s.toArray⟩ 0) (.dG s 0) (sz:=0) (n:=0) (fun c' w' I _ _=>⟨I,rfl,rfl⟩)
     refine⟨.pointer (some ⟨w.heap.size,0,none⟩),_,_,?_,F,C,?_,fun k p=>by simp[Ctx.bind,p]⟩
     . simp only[Instr.range,Sem.run_bind,run_underlying O,Result.andThen_ok,Sem.run_pure,run_newObj_alloc]
     . have := Rel.ptr (c := c.bind nm ⟨w.heap.size, 0, 0, 0⟩) (w := w.alloc (.stringIter ⟨s.toArray⟩ 0)) (k := nm) (i := 0) (off := 0) (B := ⟨w.heap.size, 0, 0, 0⟩) (by simp [Ctx.bind])
       omega
   | _=>exact(aE h).elim
 | map kt R =>
   rw[g] at h z;obtain rfl:d = .map kt R:=z;cases D with
   | @cK _ _ es m a o f N M u hs hf he hr =>
     obtain⟨j,rfl⟩:=jx h;obtain ⟨F, C⟩ := K.vJ (k := nm) q j (.mapIter (some m) a #[] a) (.cm none es) (sz := 0) (n := 0) (fun c' w' I _ A=>⟨⟨rfl,rfl⟩,m,o,a,#[],I,(A m N).1,(A m N).2.trans M,u,hs,by
      rw[show(o.toList.filter fun e=>!(#[]:Array Nat).contains e.born)=o.toList from filter_eq_self.2 ag]
      exact⟨f,hf,he,fun k x e=>(hr k x e).mono ⟨fun _ _ h=>(by cases h),fun b u=>(A b u).1⟩ fun b u=>(A b u).2⟩,fun k x p=>by cases p⟩)
     refine⟨.pointer (some ⟨w.heap.size,0,none⟩),_,_,?_,F,C,?_,fun k p=>by simp[Ctx.bind,p]⟩
     . simp only[Instr.range,Sem.run_bind,run_underlying O,Result.andThen_ok,run_getObj_map M,Sem.run_pure,run_newObj_alloc]
     . have := Rel.ptr (c := c.bind nm ⟨w.heap.size, 0, 0, 0⟩) (w := w.alloc (.mapIter (some m) a #[] a)) (k := nm) (i := 0) (off := 0) (B := ⟨w.heap.size, 0, 0, 0⟩) (by simp [Ctx.bind])
       omega
   | _=>exact(aE h).elim
 | _=>rw[g] at h;cases D<;>exact(aE h).elim
theorem VK (p:aN G c w H){x:AV}{v:Value}(C:Rel c w x v){i:Bool}{r:bk ⊕ AV}(h:(vc x i).run H=some r)(ty:TypeId):aW G c w H nm r ((Instr.next v i ty).run P w):=by
 unfold vc at h;split at h
 . rename_i k
   obtain⟨o,t,h⟩:=lL h;cases o with
   | arr _ _=>exact(aE h).elim
   | mp _=>exact(aE h).elim
   | cm _ _=>exact(aE h).elim
   | lp _ _ _ _ _=>exact(aE h).elim
   | dG s a =>
     cases C with
     | @ptr _ _ _ _ _ B q =>
       obtain⟨S,j,R,n,y,F⟩:=p.obj k _ t;rw[q] at j;cases j;have I:(⟨B.b,B.s+(0 * B.sz+0),none⟩:Addr)=⟨B.b,0,none⟩:=by rw[y];simp
       rw[I];have e:(⟨s.toArray⟩:ByteArray).size=s.length:=by simp[ByteArray.size]
       rcases sP h with⟨m,h⟩|⟨m,h⟩
       . obtain ⟨l, rfl⟩ := jx h
         have g:a<(⟨s.toArray⟩:ByteArray).size:=by rw[e];simpa using m
         obtain⟨K,M⟩:=p.bP t q l (.stringIter ⟨s.toArray⟩ (a+hU s a)) (.dG s (a+hU s a)) (fun Q N _ _=>⟨N,y,F⟩)
         refine⟨.tuple #[.bool true,goInt a,.int .i32 (jI s a)],_,_,?_,K,M,?_,fun _ _=>rfl⟩
         . simp only [Instr.next, Sem.run_bind, Kj n, Result.andThen_ok, g, if_true, Sem.run_pure]
           rw[show Utf8.decode ⟨s.toArray⟩ a=(AU s a) from rfl]
           simp only[Sem.run_bind,XK n,Result.andThen_ok,Sem.run_pure];rfl
         . have := aQ.cons (c := c) (w := { w with heap := w.heap.setIfInBounds B.b (.stringIter ⟨s.toArray⟩ (a + hU s a)) }) (.bool true) (.cons (.int .i64 a) (.cons (.int .i32 (jI s a)) .nil))
           exact .ao this.1 this.2
       . obtain rfl := bw h
         have g:¬a<(⟨s.toArray⟩:ByteArray).size:=by
          rw[e];intro z;rw[show blt a s.length=true by simpa using z] at m;cases m
         rw[show(Instr.next (.pointer (some ⟨B.b,0,none⟩)) true ty).run P w = .ok (.tuple #[.bool false]) w by
          simp only[Instr.next,Sem.run_bind,Kj n,Result.andThen_ok,g,if_false,Sem.run_pure]]
         have:=aQ.cons (c:=c) (w:=w) (.bool false) .nil;exact aW.quiet p (.ao this.1 this.2)
 . exact(aE h).elim
end
end Go.Ago
end
