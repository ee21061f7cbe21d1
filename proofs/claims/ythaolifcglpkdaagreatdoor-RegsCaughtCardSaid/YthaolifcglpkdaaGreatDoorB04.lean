/-
  Part B04: lemmas, each with its own conditions.
-/
import Derived.Laws.AppendOwn
import Derived.Maps.RangeRun
import Derived.Test.YthaolifcglpkdaaGreatDoorB03
set_option maxRecDepth 100000
set_option maxHeartbeats 0
set_option linter.all false
section
namespace Go.Ago
open List Nat
section
variable {P:Program} {E:Env} {G:eZ} {c:Ctx} {w:World} {H:aj} {nm:Nat}
theorem Bz {L:List AV}{a:Addr}(h:∀(p:Nat) x,L[p]? = some x->∃v,w.cell? (a.add p)=some v∧Rel c w x v) :
 ∃us,aP c w L us∧∀(j:Nat) v,us[j]? = some v->w.cell? (a.add j)=some v:=by
 have b:∀p,∃v,∀x,L[p]? = some x->w.cell? (a.add p)=some v∧Rel c w x v:=by
  intro p;cases e:L[p]?<;>simp_all
 let f:=fun p=>(b p).choose
 have d:∀p x,L[p]? = some x->w.cell? _=some (f p)∧Rel c w x _:=fun p=>(b p).choose_spec
 refine⟨(List.range _).map f,Jh f fun i x e=>(d i x e).2,fun j v e=>?_⟩
 have g:j<L.length:=by grind
 simp_all
structure Src (P:Program)(c:Ctx)(w:World)(size:Nat)(v:Value)(new:List (List AV))(us:List Value):Prop where
 len:∀w',(Builtin.lenOf v).run P w' = .ok new.length w'
 sz:∀(i:Nat) e,new[i]? = some e->e.length=size
 rel:aP c w new.flatten us
 cells:∀w' n,w'.heap=w.heap->n≤new.length->(Builtin.firstCells size n v).run P w' = .ok (us.take (n * size)).toArray w'
theorem P1 {w w':World}(h:w'.heap=w.heap)(a:Addr):w'.cell? a=w.cell? a:=by unfold World.cell?;rw[h]
theorem Lw {size:Nat}{b:List (List AV)}{us:List Value}{a:Addr}{cap:Nat}(d:∀(i:Nat) e,b[i]? = some e->e.length=size)(g:aP c w b.flatten us)
 (m:∀(j:Nat) v,us[j]? = some v->w.cell? (a.add j)=some v):Src P c w size (.slice (some a) b.length cap) b us:={
 len k:=rfl
 sz:=d
 rel:=g
 cells k n h l:=by
  have f:us.length=b.length * size:=by rw[<-g.1,(flat_get d).1]
  have:n * size≤us.length:=by rw[f];exact zbx _ l
  exact run_firstCells_some _ _ n a _ _ _ bj (fun j v e=>by
   rw[zcR] at e;split at e
   . rw[P1 h];grind
   grind) }
theorem Gq (Z:aN G c w H){size:Nat}(hs:0<size){x:AV}{v:Value}(hx:Rel c w x v){f:List (List AV)->Rd}{r:bo ⊕ AV}(h:(rI size x f).run H=some r) :
 ∃F us,(f F).run H=some r∧Src P c w size v F us:=by
 cases hx with
 | ai=>exact⟨[],[],h,⟨fun q=>by rfl,ag,.nil,fun q n _ _=>by simp[Builtin.firstCells]⟩⟩
 | iA=>exact⟨[],[],h,⟨fun q=>by rfl,ag,.nil,fun q n _ _=>by simp[Builtin.firstCells]⟩⟩
 | fh N =>
   obtain⟨_,g⟩:=cz h;exact⟨[],[],g,⟨fun q=>by rfl,ag,.nil,fun q n _ _=>by simp[Builtin.firstCells]⟩⟩
 | cW a=>exact⟨[],[],h,⟨fun q=>by rfl,ag,.nil,fun q n _ hn=>by
  obtain rfl:n=0:=by grind
  simp[Builtin.firstCells,loadCells,loadCellsFrom]⟩⟩
 | @ak _ _ N y I a vs J hi t hc hr =>
   obtain⟨m,g⟩:=cz h;clear h;have m:N=size:=by simpa using m
   subst m;obtain ⟨us, D, A⟩ := Bz (c := c) (w := w) (L := y.flatten) (a := a) (fun p x e=>by
    obtain⟨S,e1,e2,V,O⟩:=By t e;refine⟨vs (p / N) (p % N),?_,(hr _ _ S x V O).oJ⟩
    grind)
   exact⟨y,us,g,Lw t D A⟩
 | @ay _ _ k i d N I B a hf hsB J M hmax =>
   obtain⟨o,W,g⟩:=lL h;clear h;cases o with
   | dJ _ _=>exact(aF g).elim
   | lp _ _ _ _ _=>exact(aF g).elim
   | mp _=>exact(aF g).elim
   | cm _ _=>exact(aF g).elim
   | arr K y =>
     obtain⟨m,Y⟩:=cz g;clear g;simp only[zbe,zb1] at m;obtain⟨⟨m,D⟩,A⟩:=m;have A:=zbb A;subst m;subst D;have T:=(Z.sz W hf).2.2;have t:∀(j:Nat) e,((y.drop i).take d)[j]? = some e->e.length=K:=fun j e z=>T _ e (sX i d j e z).1
     have Q:((y.drop i).take d).length=d:=by simp;omega
     rcases zbX d with hz|X
     . subst hz
       have z:(y.drop i).take 0=[]:=ag;rw[z] at Y;exact⟨[],[],Y,⟨fun q=>by rfl,ag,.nil,fun q n _ hn=>by
        obtain rfl:n=0:=by grind
        simp[Builtin.firstCells,loadCells,loadCellsFrom]⟩⟩
     . obtain ⟨rfl, _⟩ := M aa
       obtain ⟨us, D, A⟩ := Bz (c := c) (w := w) (L := ((y.drop i).take d).flatten) (a := ⟨B.b, B.s + i * K, none⟩) (fun p x e=>by
        obtain⟨S,e1,e2,V,O⟩:=By t e;obtain⟨v,v1,_,v2⟩:=Z.cell W hf (sX i d _ S V).1 O;refine⟨v,?_,v2⟩;rw[add_plain,<-v1]
        grind)
       have hsrc:=Lw (P:=P) (cap:=I) t D A
       grind
 | str l =>
   obtain⟨m,g⟩:=cz h;clear h;have m:size=1:=by simpa using m
   subst m;have t:∀(i:Nat) e,(l.map fun b=>[AV.int .u8 b.toNat])[i]? = some e->e.length=1:=by
    intro i e z;simp only[zbC,zcu] at z;obtain⟨b,_,rfl⟩:=z;rfl
   have U:∀l:List UInt8,(l.map fun b=>[AV.int .u8 (b.toNat:Int)]).flatten=l.map fun b=>AV.int .u8 (b.toNat:Int):=by
    intro l
    induction l with
    | nil=>rfl
    | cons b l ih=>grind
   have u:(⟨l.toArray⟩:ByteArray).size=l.length:=by simp[ByteArray.size]
   refine⟨_,l.map fun b=>Value.int .u8 b.toNat,g,⟨fun q=>by simp[Builtin.lenOf,u],t,?_,fun q n _ hn=>?_⟩⟩
   . rw [U]
     refine⟨ag,fun i x v e e'=>?_⟩
     simp only[zbC,zcu] at e e';obtain⟨b,hb,rfl⟩:=e;obtain⟨b',C,rfl⟩:=e';rw[hb] at C;cases C;exact .int _ _
   . simp only [Builtin.firstCells, Sem.run_pure]
     simp
 | _=>exact(aF h).elim
theorem Fh {n b:Nat}(h:n * (b+1)≤140737488355328):n≤140737488355328∧n * b≤140737488355328:=by
 grind
section app
variable {t e tx:TypeId} {dx:TypeDesc} {ie:TypeInfo} {z:Value} {size:Nat} {x:Value} {new:List (List AV)} {us:List Value}
 (ht:P.underlying t=some (.slice e)) (htx:P.underlying tx=some dx) (hdx:∀k,dx≠.int k) (hie:P.info? e=some ie) (hsz:ie.size=size) (hz:ie.zero=some z) (hsrc:Src P c w size x new us)
include ht htx hdx hie hsz hsrc
theorem E0 (ty:TypeId)(d:Option Addr)(b f:Nat)(l:b+new.length≤f) :
 (Builtin.append_ #[t,tx] ty #[.slice d b f,x]).run P w =
  match d with
  | some a=>((storeCells (a.add (b * size)) us).run P w).andThen fun _ w' => .ok (.slice d (b+new.length) f) w'
  | none => .ok (.slice d (b+new.length) f) w:=by
 have j:=fun w=>run_underlying htx w
 have m:=hsrc.cells w new.length rfl (zbm _);have q:us.length=new.length * size:=by rw[<-hsrc.rel.1,(flat_get hsrc.sz).1]
 rw[zbj aa] at m;have g:(sizeOf e).run P w = .ok size w:=by simp[sizeOf,typeInfo,hie,hsz]
 simp only[Builtin.append_,zbR,zb3,zcH,Sem.run_bind,run_underlying ht,Result.andThen_ok,g,j,Sem.run_pure,zbH,zb8,hsrc.len,l,if_true,Bool.not_false,m];cases d<;>simp
include hz
theorem EZ (ty:TypeId)(i:Option Addr)(a b:Nat)(m:¬a+new.length≤b){j:List Value}(r:∀w',w'.heap=w.heap->(Builtin.firstCells size a (.slice i a b)).run P w' = .ok j.toArray w')
 (y:(a+new.length) * (ie.bytes+1)≤140737488355328) :
 (Builtin.append_ #[t,tx] ty #[.slice i a b,x]).run P w =
  .ok (.slice (some ⟨w.heap.size,0,none⟩) (a+new.length) (grownCap w (a+new.length) b e))
   (w.drew.alloc (.cells (j.toArray++us.toArray++Builtin.zeroCells z.cells (grownCap w (a+new.length) b e - (a+new.length))) e)):=by
 have h:=fun w=>run_underlying htx w
 have q:=hsrc.cells w.drew new.length rfl (zbm _);have B:us.length=new.length * size:=by rw[<-hsrc.rel.1,(flat_get hsrc.sz).1]
 rw[zbj aa] at q;have g:∀w,(sizeOf e).run P w = .ok size w:=fun w=>by simp[sizeOf,typeInfo,hie,hsz]
 have l:∀w,(typeInfo e).run P w = .ok ie w:=fun w=>by simp[typeInfo,hie]
 have n:∀w,(zeroValue e).run P w = .ok z w:=fun w=>by simp[zeroValue,typeInfo,hie,hz]
 obtain⟨C,u⟩:=Fh y;have p:¬(((a+new.length:Nat):Int) > IntKind.i64.max):=by simp;omega
 have A:=growslice_fits (old:=b) aa u;have s:¬(Builtin.nextslicecap (a+new.length) b * ie.bytes > 2 ^ 48):=by simp;omega
 have I:=r w.drew rfl;simp only[Builtin.append_,zbR,zb3,zcH,Sem.run_bind,run_underlying ht,Result.andThen_ok,g,h,Sem.run_pure,zbH,zb8,hsrc.len,m,Bool.not_false,if_true,
  l,p,false_and,s,run_choose,Question.forced,run_askRoom,World.drew_eq,I,q,n,newRow,run_newObj_alloc,World.size_drew]
 rfl
end app
theorem Oq (hE:bZ P E)(hw:aN G c w H)(L:c.f nm=none){t T ty e:TypeId}{kx:IntKind}{s y:AV}{v u:Value}(t2:P.underlying t=some (.slice e))(x2:P.underlying T=some (.int kx))(hs:Rel c w s v)(hy:Rel c w y u){r:bo ⊕ AV}
 (h:(yK E nm e s y).run H=some r):aX G c w H nm r ((Builtin.append_ #[t,T] ty #[v,u]).run P w):=by
 obtain⟨a,O,h⟩:=cL h;obtain⟨K,de,z,S,b2,b3,b4,b5,b6,b7,Y,Z,b10,b11⟩:=(hE.ti e a O).ok;cases hs with
 | ai =>
   cases hy with
   | int ky n =>
     cases ky<;>(try exact(aF h).elim)
     obtain⟨X,h⟩:=cz h;obtain⟨Q,h⟩:=cz h;obtain⟨A,rfl⟩:=jA h;simp only[zbe] at X Q;have g:0<a.size:=by simpa using X.1
     have hn:0<n.toNat:=by simpa using Q.1
     have hb:=zbb Q.2;obtain⟨hb1,N⟩:=Fh hb;have M:IntKind.i64.wrap n=n:=by unfold IntKind.wrap IntKind.signed IntKind.bits;simp;omega
     have J:z.cells.size=a.size:=by have:=(Y c w).1;rw[Z] at this;simpa using this.symm
     have b:∀w,(sizeOf e).run P w = .ok a.size w:=fun w=>by simp[sizeOf,typeInfo,S,b3]
     have l:∀w,(typeInfo e).run P w = .ok K w:=fun w=>by simp[typeInfo,S]
     have m:∀w,(zeroValue e).run P w = .ok z w:=fun w=>by simp[zeroValue,typeInfo,S,b7]
     have B:¬(((0+n.toNat:Nat):Int) > IntKind.i64.max):=by simp[IntKind.max,IntKind.signed,IntKind.bits];omega
     have q:n.toNat * K.bytes≤140737488355328:=by rw[b4];exact N
     have R:=growslice_fits (old:=0) (need:=0+n.toNat) aa (by simpa using q)
     have D:¬(Builtin.nextslicecap (0+n.toNat) 0 * K.bytes > 2 ^ 48):=by simp at R ⊢;omega
     have F:¬n<0:=aa;have U:¬n.toNat * a.size=0:=by have:=Nat.mul_pos hn g;omega
     have C:¬n * (K.bytes:Int) > 2 ^ 48:=by
      have:((n.toNat * K.bytes:Nat):Int)≤(140737488355328:Nat):=Int.ofNat_le.2 q;rw[Int.natCast_mul,zda aa] at this;omega
     have o:¬(0+n.toNat≤0):=aa;have d:∀V,(Builtin.firstCells a.size 0 (.slice none 0 0)).run P V = .ok #[] V:=by intro V;simp[Builtin.firstCells]
     have I:(Builtin.append_ #[t,T] ty #[.slice none 0 0,.int .i64 n]).run P w =
      .ok (.slice (some ⟨w.heap.size,0,none⟩) (0+n.toNat) (grownCap w (0+n.toNat) 0 e))
       (w.drew.alloc (.cells (#[]++Builtin.zeroCells z.cells n.toNat++Builtin.zeroCells z.cells (grownCap w (0+n.toNat) 0 e - (0+n.toNat))) e)):=by
      simp only[Builtin.append_,zbR,zb3,zcH,Sem.run_bind,run_underlying t2,run_underlying x2,Result.andThen_ok,b,Sem.run_pure,if_true,asInt,asIntOf,M,F,zb8,l,C,o,
       Bool.not_true,zbH,U,B,false_and,D,run_choose,Question.forced,run_askRoom,World.drew_eq,d,m,newRow,run_newObj_alloc,World.size_drew]
      rfl
     rw[I];have hge:=grownCap_ge w (0+n.toNat) 0 e;have j:=sP hw.drew L A e (size:=a.size) (es:=replicate n.toNat a.zero) (arr:=#[]++Builtin.zeroCells z.cells n.toNat++Builtin.zeroCells z.cells (grownCap w (0+n.toNat) 0 e - (0+n.toNat)))
      (n := grownCap w (0 + n.toNat) 0 e * a.size) (by
       simp only[Array.size_append,zcy,zbp,size_zeroCells,J,zce,<-zcs]
       grind) (zbx _ bj) (fun i e he=>by
       grind) (fun p x hp=>by
       obtain⟨v,hv,hr⟩:=(zU (len:=n.toNat) (Y c w) Z g).get hp;have hz:((Array.range (n.toNat * a.size)).map (z.cells[· % z.cells.size]!))=Builtin.zeroCells z.cells n.toNat:=by simp[Builtin.zeroCells,J]
       rw[hz] at hv;have W:(Builtin.zeroCells z.cells n.toNat)[p]? = some v:=by rw[<-zcJ];exact hv
       have hpl:=(zb6.1 W).1;refine⟨v,?_,hr.drew⟩
       grind)
     refine⟨_,_,_,rfl,(Ext.yr c w H).trans j.1,j.2,?_,Ctx.mV⟩;have:=sU (c:=c) (nm:=nm) (w:=w.drew) (n:=grownCap w (0+n.toNat) 0 e * a.size) (size:=a.size) (len:=n.toNat) (cap:=grownCap w (0+n.toNat) 0 e) aa (zbm _) (zbu (grownCap_le_maxLen _ _ _ _ (by simp only[maxLen];omega)) ab)
      (w.drew.alloc (.cells (#[]++Builtin.zeroCells z.cells n.toNat++Builtin.zeroCells z.cells (grownCap w (0+n.toNat) 0 e - (0+n.toNat))) e))
     simp_all
   | _=>exact(aF h).elim
 | _=>exact(aF h).elim
theorem PL (l:bZ P E)(m:aN G c w H){t ty:TypeId}{x:AV}{v:Value}(n:Rel c w x v){r:bo ⊕ AV}(h:(KU E t x).run H=some r):aX G c w H nm r ((Builtin.cap_ #[t] ty #[v]).run P w):=by
 obtain⟨i,b,h⟩:=cL h;obtain⟨_,d,_,_,k,_,_,_,j,_⟩:=(l.ti t i b).ok;cases a:i.desc with
 | slice e =>
   rw[a] at h j;obtain rfl:d = .slice e:=j;cases n with
   | ai =>
     obtain rfl:=bE h;rw[show(Builtin.cap_ #[t] ty #[.slice none 0 0]).run P w = .ok (goInt 0) w by
      simp only[Builtin.cap_,zbR,zb3,Sem.run_bind,run_underlying k,Result.andThen_ok,Sem.run_pure];rfl]
     exact aX.quiet m (.int _ _)
   | _=>exact(aF h).elim
 | _=>rw[a] at h;exact(aF h).elim
theorem za0 {c:Ctx}{w:World}{z:Array Value}{a:List AV}{size len:Nat}(f:aP c w a z.toList)(g:a.length=size)(b:0<size):aP c w (replicate len a).flatten (Builtin.zeroCells z len).toList:=by
 have:=zU (len:=len) f g b;have d:z.size=size:=by have:=f.1;grind
 have e:((Array.range (len * size)).map (z[· % z.size]!))=Builtin.zeroCells z len:=by simp[Builtin.zeroCells,d]
 grind
theorem Qu (hE:bZ P E)(Q:aN G c w H){t ty:TypeId}{x:AV}{v:Value}(O:Rel c w x v){r:bo ⊕ AV}(h:(yN E t x).run H=some r):aX G c w H nm r ((Builtin.clear_ #[t] ty #[v]).run P w):=by
 obtain⟨ti,U,h⟩:=cL h;obtain⟨_,d,_,_,d2,_,_,_,d6,_⟩:=(hE.ti t ti U).ok;cases n:ti.desc with
 | slice e =>
   rw[n] at h d6;obtain rfl:d = .slice e:=d6;cases O with
   | @ay _ _ k i b sz cap B a hf hsB hlen I hmax =>
     obtain⟨f,Z,h⟩:=cL h;obtain⟨ie,de,z,b1,b2,b3,b4,b5,b6,b7,b8,b9,b10,b11⟩:=(hE.ti e f Z).ok;obtain⟨o,ho,h⟩:=lL h;cases o with
     | dJ _ _=>exact(aF h).elim
     | lp _ _ _ _ _=>exact(aF h).elim
     | mp _=>exact(aF h).elim
     | cm _ _=>exact(aF h).elim
     | arr sz' m =>
       obtain⟨h0,h⟩:=cz h;obtain⟨h1,h⟩:=cz h;obtain⟨s,rfl⟩:=jA h;simp only[zbe,zb1] at h0;obtain⟨⟨⟨q1,q2⟩,rfl⟩,rfl⟩:=h0;have K:0<f.size:=by simpa using q1
       have W:=zbb h1;obtain⟨hB,X,C⟩:=Q.sz ho hf;have u:∀w,(zeroValue e).run P w = .ok z w:=fun w=>by simp[zeroValue,typeInfo,b1,b7]
       have p:∀{c w},Rel c w (.ao []) (.tuple #[]):=fun {c w}=>Rel.ao (vs:=[]) rfl ag
       rcases zbX b with h00|hpl
       . subst h00
         have hH:∀j,(bo.dK H [(k,some (.arr f.size (m.take i++replicate 0 f.zero++m.drop (i+0))))]).get j=H.get j:=by
          intro j;simp only[bo.dK,replicate_zero,zcX,Nat.add_zero,zb7];rw[Tr.eQ 24 k _ H j s]
          by_cases hj:j=k
          . grind
          . grind
         rw[show(Builtin.clear_ #[t] ty #[.slice (some a) 0 cap]).run P w = .ok (.tuple #[]) w by
          simp only[Builtin.clear_,zbR,zb3,Sem.run_bind,run_underlying d2,Result.andThen_ok,Sem.run_pure]]
         exact⟨.tuple #[],w,c,rfl,(Ext.refl c w H).congr (fun _=>rfl) hH,Q.congr hH,p,fun _ _=>rfl⟩
       . obtain ⟨rfl, hBcap⟩ := I aa
         have R:=za0 (len:=b) (b8 c w) b9 K;have S:(replicate b f.zero).flatten.length=b * f.size:=by
          rw[(flat_get (sz:=f.size) (fun j N g=>by grind)).1];simp
         have V:∀(j:Nat) (q:Nat) (x:List AV),(replicate b f.zero)[j]? = some x->x=f.zero∧j<b:=by
          intro j _ x g;rw[zcg] at g;split at g<;>simp at g
          rename_i hh;exact⟨g.symm,hh⟩
         have hes':(m.take i++replicate b f.zero++m.drop (i+b)).length=m.length:=by simp;omega
         have J:∀j,(m.take i++replicate b f.zero++m.drop (i+b))[j]? = if j<i then m[j]? else if j<i+b then some f.zero else m[j]?:=by
          intro j;have e1:(m.take i).length=i:=by simp;omega
          by_cases A:j<i
          . grind
          . rw [if_neg A]
            by_cases Y:j<i+b
            . grind
            . rw [if_neg Y, zbv bj, zcF]
              grind
         obtain ⟨w', F, D, hw'⟩ := Q.store (es' := m.take i ++ replicate b f.zero ++ m.drop (i + b)) ho hf s (i * f.size) R (fun x O=>by
          obtain⟨l,uF,hl2⟩:=mem_flatten.1 O
          grind) (by rw[S,<-zcs];exact zbu (zbx _ W) X) bj
          (fun j N g=>by
            rw[J j] at g
            grind)
          (fun j q N x g hq=>by
            rw[J j] at g;have L:∀y:List AV,y.length=f.size->y[q]? = some x->q<f.size:=fun y h1 h2=>by grind
            split at g
            . rename_i A
              have M:=L N (C _ _ g) hq;have:(j+1) * f.size≤i * f.size:=zbx _ A
              grind
            . split at g
              . rename_i A Y
                cases g;have M:=L f.zero b9 hq
                right;left
                have e1:j * f.size=i * f.size+(j - i) * f.size:=by rw[<-zcs];congr 1;omega
                have e2:(j - i+1) * f.size≤b * f.size:=zbx _ aa;rw[zcs] at e2;refine⟨aa,aa,?_⟩;rw[show j * f.size+q - i * f.size=(j - i) * f.size+q by omega]
                rw[(flat_get (sz:=f.size) (es:=replicate b f.zero) (fun j N g=>by grind)).2 (j - i) q f.zero bj M]
                exact hq
              . rename_i A Y
                right;right
                have:(i+b) * f.size≤j * f.size:=zbx _ aa
                grind) P
         have hl0:b≠0:=aa;refine⟨.tuple #[],w',c,?_,D,hw',p,fun _ _=>rfl⟩
         obtain⟨len',rfl⟩:∃l,b=l+1:=⟨b - 1,aa⟩;simp only[Builtin.clear_,zbR,zb3,Sem.run_bind,run_underlying d2,Result.andThen_ok,u,F,Sem.run_pure]
   | _=>exact(aF h).elim
 | _=>rw[n] at h;cases O<;>exact(aF h).elim
theorem Oo (hE:bZ P E)(hw:aN G c w H)(hnm:c.f nm=none){t tx ty:TypeId}{s y:AV}{v u:Value}(hs:Rel c w s v)(hy:Rel c w y u){r:bo ⊕ AV}(h:(qI E nm t tx s y).run H=some r) :
 aX G c w H nm r ((Builtin.append_ #[t,tx] ty #[v,u]).run P w):=by
 obtain⟨ti,hti,h1⟩:=cL h;obtain⟨tix,htix,h2⟩:=cL h1;clear h h1;obtain⟨_,d,_,_,t2,_,_,_,t6,_⟩:=(hE.ti t ti hti).ok;obtain⟨_,dx,_,_,x2,_,_,_,x6,_⟩:=(hE.ti tx tix htix).ok;cases hdesc:ti.desc<;>rw[hdesc] at h2 t6<;>(try exact(aF h2).elim)
 rename_i e;obtain rfl:d = .slice e:=t6
 by_cases hint:∃k,tix.desc = .int k
 . obtain ⟨kx, hk⟩ := hint
   rw[hk] at h2 x6;obtain rfl:dx = .int kx:=x6;exact Oq hE hw hnm t2 x2 hs hy h2
 have key:(yL E nm e s y).run H=some r∧∀k,dx≠.int k:=by
  cases U:tix.desc<;>rw[U] at h2 x6<;>(try exact(hint ⟨_,U⟩).elim)<;>(try exact(aF h2).elim)
  . refine ⟨h2, ?_⟩
    obtain rfl:dx = .slice _:=x6;simp
  . refine ⟨h2, ?_⟩
    obtain rfl:dx = .string:=x6;simp
 obtain⟨h3,U⟩:=key;obtain⟨A,hte,h4⟩:=cL h3;clear h3;obtain⟨ie,de,z,b1,b2,b3,b4,b5,b6,b7,b8,b9,b10,b11⟩:=(hE.ti e A hte).ok;obtain⟨W,h5⟩:=cz h4;clear h4;have W:0<A.size:=by simpa using W
 obtain⟨l,us,h6,C⟩:=Gq (P:=P) hw W hy h5;clear h5;have hul:us.length=l.length * A.size:=by rw[<-C.rel.1,(flat_get C.sz).1]
 rcases sR h6 with⟨hb,h7⟩|⟨hb,h7⟩
 . -- nothing is appended
   have hn0:l.length=0:=zbl hb;have hu0:us=[]:=zbh bj;have done:∀(D:Option Addr) (Q T:Nat),Q≤T->(Builtin.append_ #[t,tx] ty #[.slice D Q T,u]).run P w = .ok (.slice D Q T) w:=by
    intro D Q T hle;rw[E0 (P:=P) t2 x2 U b1 b3 C ty D Q T aa];cases D<;>simp[hu0,hn0,storeCells]
   cases hs with
   | ai=>obtain rfl:=bE h7;rw[done none 0 0 (zbm _)];exact aX.quiet hw .ai
   | iA=>obtain rfl:=bE h7;rw[done none 0 0 (zbm _)];exact aX.quiet hw .iA
   | fh sz=>obtain rfl:=bE h7;rw[done none 0 0 (zbm _)];exact aX.quiet hw (.fh sz)
   | cW a=>obtain rfl:=bE h7;rw[done (some a) 0 0 (zbm _)];exact aX.quiet hw (.cW a)
   | ay hf hsB J X V=>obtain rfl:=bE h7;rw[done _ _ _ J];exact aX.quiet hw (.ay hf hsB J X V)
   | ak vs J hi hl hc hr=>obtain rfl:=bE h7;rw[done _ _ _ J];exact aX.quiet hw (.ak vs J hi hl hc hr)
   | _=>exact(aF h7).elim
 . have hn0:0<l.length:=by
    rcases zbX l.length with h0|h0
    . simp_all
    . exact h0
   obtain⟨hone,h8⟩:=cz h7;clear h7 h6;have hone':∀x∈l.flatten,x.one=true:=by
    intro x hx;obtain⟨el,M,hxe⟩:=mem_flatten.1 hx;have:=zbr.1 hone el M;exact zbr.1 this x hxe
   have fresh:∀(D:Option Addr),ble (l.length * (A.bytes+1)) 140737488355328=true->nm+1<2 ^ 24->
    aX G c w H nm (.inl ⟨.ay nm 0 l.length A.size,[(nm,some (.arr A.size l))]⟩) ((Builtin.append_ #[t,tx] ty #[.slice D 0 0,u]).run P w):=by
    intro D hbl F;have hbl:=zbb hbl;have hgb:∀e,grownCap w (0+l.length) 0 e≤9223372036854775807:=fun e=>zbu (grownCap_le_maxLen _ _ _ _ (by have Z:=Nat.le_mul_of_pos_right l.length (show 0<A.bytes+1 from succ_pos _);simp only[maxLen];omega)) ab
    have hfirst:∀w',w'.heap=w.heap->(Builtin.firstCells A.size 0 (.slice D 0 0)).run P w' = .ok ([]:List Value).toArray w':=by
     intro w' _;cases D<;>simp[Builtin.firstCells,loadCells,loadCellsFrom]
    have R:=EZ (P:=P) t2 x2 U b1 b3 b7 C ty D 0 0 aa hfirst bj;rw[R];have hge:=grownCap_ge w (0+l.length) 0 e;have hzs:z.cells.size=A.size:=by have:=(b8 c w).1;rw[b9] at this;simpa using this.symm
    have Y:=sP (hw.drew) hnm F e (size:=A.size) (es:=l) (arr:=([]:List Value).toArray++us.toArray++Builtin.zeroCells z.cells (grownCap w (0+l.length) 0 e - (0+l.length)))
     (n := grownCap w (0 + l.length) 0 e * A.size) (by
      simp only[Array.size_append,zcy,zbp,size_zeroCells,hzs,hul,zce,<-zcs]
      grind) (zbx _ aa) C.sz (fun p x hp=>by
      obtain⟨v,hv,hr⟩:=C.rel.get hp;refine⟨v,?_,hr.drew⟩
      grind)
    refine⟨_,_,_,rfl,(Ext.yr c w H).trans Y.1,Y.2,?_,Ctx.mV⟩;have:=sU (c:=c) (nm:=nm) (w:=w.drew) (n:=grownCap w (0+l.length) 0 e * A.size) (size:=A.size) (len:=l.length) (cap:=grownCap w (0+l.length) 0 e) aa (zbm _) (hgb _)
     (w.drew.alloc (.cells (([]:List Value).toArray++us.toArray++Builtin.zeroCells z.cells (grownCap w (0+l.length) 0 e - (0+l.length))) e))
    simpa using this
   cases hs with
   | ai =>
     obtain⟨hbl,Z⟩:=cz h8;obtain⟨F,rfl⟩:=jA Z
     grind
   | iA =>
     obtain⟨hbl,Z⟩:=cz h8;obtain⟨F,rfl⟩:=jA Z
     grind
   | cW a =>
     obtain⟨hbl,Z⟩:=cz h8;obtain⟨F,rfl⟩:=jA Z
     grind
   | @ay _ _ k i g sz I B a hf hsB J X V =>
     obtain⟨o,ho,Z⟩:=lL h8;cases o with
     | dJ _ _=>exact(aF Z).elim
     | lp _ _ _ _ _=>exact(aF Z).elim
     | mp _=>exact(aF Z).elim
     | cm _ _=>exact(aF Z).elim
     | arr sz' L =>
       obtain⟨hq,h10⟩:=cz Z;obtain rfl:=bE h10;clear h8 Z h10;simp only[zbe,zb1] at hq;obtain⟨⟨⟨⟨⟨q1,q2⟩,q3⟩,q4⟩,q5⟩,q6⟩:=hq;have q3:=zbb q3;have q4:=zbb q4;have q5:=zbb q5;have q6:=zbb q6;subst q1;subst q2;obtain⟨hB,hBn,hels⟩:=hw.sz ho hf;have F:k+1<2 ^ 24:=aa;have hn24:nm+1<2 ^ 24:=aa;have cF:nm≠k:=by rintro rfl;rw[hf] at hnm;cases hnm
       have K:((L.drop i).take g).length=g:=by simp;omega
       have hupd:bo.dK H [(k,none),(nm,some (.arr A.size ((L.drop i).take g++l)))]=(H.set 24 k none).set 24 nm (some (.arr A.size ((L.drop i).take g++l))):=rfl;have hcatl:∀(j:Nat) e,((L.drop i).take g++l)[j]? = some e->e.length=A.size:=by
        intro j el M
        by_cases hj:j<g
        . grind
        . rw [zbv aa] at M
          exact C.sz _ el M
       by_cases O:g+l.length≤I
       . -- in place
         obtain⟨rfl,hBcap⟩:=X aa;rw[E0 (P:=P) t2 x2 U b1 b3 C ty _ g I O];dsimp only;rw[add_plain];have hx1:i * A.size+(g * A.size+l.length * A.size)≤B.n:=by
          have:(i+(g+l.length)) * A.size≤(i+I) * A.size:=zbx _ aa;rw[zcs,zcs] at this;omega
         have hfl:=(flat_get C.sz).1;have hcut:∀(j:Nat),j<i+g->(L.take (i+g))[j]? = L[j]?:=fun j hj=>by grind
         have hes':(L.take (i+g)++l).length=i+g+l.length:=by simp;omega
         have htl:(L.take (i+g)).length=i+g:=by simp;omega
         obtain⟨w',R,hext,hw'⟩:=hw.store (es':=L.take (i+g)++l) ho hf F ((i+g) * A.size) C.rel hone' bj
          (by rw[hes',Nat.add_assoc,zcs,zcs];omega)
          (fun j el M=>by
            by_cases hj:j<i+g
            . grind
            . rw[zbv aa] at M;exact C.sz _ el M)
          (fun j q el x M hq=>by
            by_cases hj:j<i+g
            . rw [zbM aa, hcut j hj] at M
              left
              have hqs:q<A.size:=by have:=(zbn.1 hq).1;rw[hels _ el M] at this;exact this
              have:(j+1) * A.size≤(i+g) * A.size:=zbx _ hj
              grind
            . rw [zbv aa, htl] at M
              right;left
              have hqs:q<A.size:=by have:=(zbn.1 hq).1;rw[C.sz _ el M] at this;exact this
              have hjn:j - (i+g)<l.length:=(zbn.1 M).1;have e1:j * A.size=(i+g) * A.size+(j - (i+g)) * A.size:=by rw[<-zcs];congr 1;omega
              have e2:(j - (i+g)+1) * A.size≤l.length * A.size:=zbx _ hjn;rw[zcs] at e2;refine⟨aa,aa,?_⟩;rw[show j * A.size+q - (i+g) * A.size=(j - (i+g)) * A.size+q by omega]
              rw[(flat_get C.sz).2 _ q el M hqs];exact hq) P
         have haddr:(⟨B.b,B.s+i * A.size+g * A.size,none⟩:Addr)=⟨B.b,B.s+(i+g) * A.size,none⟩:=by
          rw[zcs,Nat.add_assoc]
         rw[haddr,R,Result.andThen_ok];have hren:=hw'.rename (k:=k) (k':=nm) F hn24 hnm (by rw[Tr.eQ 24 k _ H k F,if_pos rfl]) hf i (I * A.size) bj
          (es' := (L.drop i).take g ++ l) (by rw [zbk, K]; exact zbx _ O) (fun j el M=>by
           by_cases hj:j<g
           . grind
           . rw [zbv aa, K] at M
             rw[zbv aa,htl,show i+j - (i+g)=j - g by omega]
             exact M)
         have hH:∀j,(((H.set 24 k (some (.arr A.size (L.take (i+g)++l)))).set 24 k none).set 24 nm (some (.arr A.size ((L.drop i).take g++l)))).get j =
          ((H.set 24 k none).set 24 nm (some (.arr A.size ((L.drop i).take g++l)))).get j:=by
          intro j;simp only[Tr.eQ 24 _ _ _ _ F,Tr.eQ 24 _ _ _ _ hn24]
          by_cases h1:j=nm<;>by_cases h2:j=k<;>simp[h1,h2]
         refine⟨_,w',c.bind nm ⟨B.b,B.s+i * A.size,I * A.size,A.size⟩,rfl,?_,?_,?_,Ctx.mV⟩
         . rw[hupd];exact(hext.trans hren.1).congr (fun _=>rfl) (fun j=>(hH j).symm)
         . rw[hupd];exact hren.2.congr (fun j=>(hH j).symm)
         . refine Rel.ay (B:=⟨B.b,B.s+i * A.size,I * A.size,A.size⟩) (by simp[Ctx.bind]) rfl O (fun _=>⟨ag,ag⟩) V
       . -- a new row
         obtain⟨S,ho1,ho2⟩:∃S:List Value,(∀w',w'.heap=w.heap->(Builtin.firstCells A.size g (.slice (some a) g I)).run P w' = .ok S.toArray w')∧aP c w ((L.drop i).take g).flatten S:=by
          rcases zbX g with h0|h0
          . subst h0
            exact⟨[],fun w' _=>by simp[Builtin.firstCells,loadCells,loadCellsFrom],by simpa using aP.nil⟩
          . obtain ⟨new', us', hX, N⟩ := Gq (P := P) (f := fun L => .ret ⟨.ak 0 L, []⟩) (r := .inl ⟨.ak 0 ((L.drop i).take g), []⟩) hw W (Rel.ay (len := g) (cap := I) (i := i) (a := a) hf hsB J X V) (by
             have h1:(A.size == A.size && A.size == A.size && ble (i+g) L.length)=true:=by
              rw[zbs q3];simp
             simp only[rI,Rd.run,ho,kj,h1])
            have hnew:new'=(L.drop i).take g:=by
             have:=bE hX
             injection this with this
             injection this with this
             injection this with _ this
             exact this.symm
            subst hnew;refine⟨us',fun w' hh=>?_,N.rel⟩
            have:=N.cells w' g hh aa
            rwa [zbj (by rw[<-N.rel.1,(flat_get N.sz).1,K];simp)] at this
         have R:=EZ (P:=P) t2 x2 U b1 b3 b7 C ty (some a) g I O ho1 bj;rw[R];have hge:=grownCap_ge w (g+l.length) I e;have hzs:z.cells.size=A.size:=by have:=(b8 c w).1;rw[b9] at this;simpa using this.symm
         have hol:S.length=g * A.size:=by
          have:=ho2.1;rw[(flat_get (fun j el M=>hels _ el (sX i g j el M).1)).1,K] at this
          exact this.symm
         have hdrop:=hw.drew.drop k F;have Y:=sP hdrop.2 hnm hn24 e (size:=A.size) (es:=(L.drop i).take g++l) (arr:=S.toArray++us.toArray++Builtin.zeroCells z.cells (grownCap w (g+l.length) I e - (g+l.length)))
          (n := grownCap w (g + l.length) I e * A.size) (by
           simp only[Array.size_append,zcy,size_zeroCells,hzs,hul,hol,<-zcs]
           grind) (by rw [zbk, K]; exact zbx _ hge) hcatl (fun p x hp=>by
           rw[flatten_append] at hp;obtain⟨v,hv,hr⟩:=(ho2.append C.rel).get hp;refine⟨v,?_,hr.drew⟩
           grind)
         refine⟨_,_,c.bind nm ⟨w.heap.size,0,grownCap w (g+l.length) I e * A.size,A.size⟩,rfl,?_,?_,?_,Ctx.mV⟩
         . rw[hupd];exact((Ext.yr c w H).trans hdrop.1).trans Y.1
         . simp_all
         . exact sU (c:=c) (nm:=nm) (w:=w.drew) (n:=grownCap w (g+l.length) I e * A.size) (size:=A.size) (len:=g+l.length) (cap:=grownCap w (g+l.length) I e) hge (zbm _) (zbu (grownCap_le_maxLen _ _ _ _ (by have Z:=Nat.le_mul_of_pos_right (g+l.length) (show 0<A.bytes+1 from succ_pos _);simp only[maxLen];omega)) ab) _
   | _=>exact(aF h8).elim
theorem Yd {w:World}{r:Nat}{s:ByteArray}{p:Nat}(a:w.heap[r]? = some (.stringIter s p))(o:Obj):(setObj r o).run P w = .ok () { w with heap:=w.heap.setIfInBounds r o }:=by
 simp[setObj,Sem.run,a]
theorem KD {w:World}{r:Nat}{s:ByteArray}{p:Nat}(a:w.heap[r]? = some (.stringIter s p)):(getObj r).run P w = .ok (.stringIter s p) w:=by
 simp[getObj,Sem.run,a]
theorem run_getObj_map {w:World}{r:Nat}{es:Array MapEntry}{k:Nat}(a:w.heap[r]? = some (.map es k)):(getObj r).run P w = .ok (.map es k) w:=by
 simp[getObj,Sem.run,a]
theorem run_setObj_map {w:World}{r:Nat}{es:Array MapEntry}{k:Nat}(a:w.heap[r]? = some (.map es k))(o:Obj):(setObj r o).run P w = .ok () { w with heap:=w.heap.setIfInBounds r o }:=by
 simp[setObj,Sem.run,a]
theorem XI (Q:bZ P E)(K:aN G c w H)(q:c.f nm=none){t:TypeId}{x:AV}{v:Value}(D:Rel c w x v){r:bo ⊕ AV}(h:(K3 E nm t x).run H=some r):aX G c w H nm r ((Instr.range t v).run P w):=by
 obtain⟨L,J,h⟩:=cL h;obtain⟨_,d,_,_,O,_,_,_,z,_⟩:=(Q.ti t L J).ok;cases g:L.desc with
 | string =>
   rw[g] at h z;obtain rfl:d = .string:=z;cases D with
   | str s =>
     obtain⟨j,rfl⟩:=jA h;obtain⟨F,C⟩:=K.vR (k:=nm) q j (.stringIter ⟨s.toArray⟩ 0) (.dJ s 0) (sz:=0) (n:=0) (fun c' w' I _ _=>⟨I,rfl,rfl⟩)
     refine⟨.pointer (some ⟨w.heap.size,0,none⟩),_,_,?_,F,C,?_,fun k p=>by simp[Ctx.bind,p]⟩
     . simp only[Instr.range,Sem.run_bind,run_underlying O,Result.andThen_ok,Sem.run_pure,run_newObj_alloc]
     . have := Rel.ptr (c := c.bind nm ⟨w.heap.size, 0, 0, 0⟩) (w := w.alloc (.stringIter ⟨s.toArray⟩ 0)) (k := nm) (i := 0) (off := 0) (B := ⟨w.heap.size, 0, 0, 0⟩) (by simp [Ctx.bind])
       omega
   | _=>exact(aF h).elim
 | map kt R =>
   rw[g] at h z;obtain rfl:d = .map kt R:=z;cases D with
   | @cK _ _ es m a o f N M u hs hf he hr =>
     obtain⟨j,rfl⟩:=jA h;obtain ⟨F, C⟩ := K.vR (k := nm) q j (.mapIter (some m) a #[] a) (.cm none es) (sz := 0) (n := 0) (fun c' w' I _ A=>⟨⟨rfl,rfl⟩,m,o,a,#[],I,(A m N).1,(A m N).2.trans M,u,hs,by
      rw[show(o.toList.filter fun e=>!(#[]:Array Nat).contains e.born)=o.toList from filter_eq_self.2 ag]
      exact⟨f,hf,he,fun k x e=>(hr k x e).mono ⟨fun _ _ h=>(by cases h),fun b u=>(A b u).1⟩ fun b u=>(A b u).2⟩,fun k x p=>by cases p⟩)
     refine⟨.pointer (some ⟨w.heap.size,0,none⟩),_,_,?_,F,C,?_,fun k p=>by simp[Ctx.bind,p]⟩
     . simp only[Instr.range,Sem.run_bind,run_underlying O,Result.andThen_ok,run_getObj_map M,Sem.run_pure,run_newObj_alloc]
     . have := Rel.ptr (c := c.bind nm ⟨w.heap.size, 0, 0, 0⟩) (w := w.alloc (.mapIter (some m) a #[] a)) (k := nm) (i := 0) (off := 0) (B := ⟨w.heap.size, 0, 0, 0⟩) (by simp [Ctx.bind])
       omega
   | _=>exact(aF h).elim
 | _=>rw[g] at h;cases D<;>exact(aF h).elim
theorem Wf (p:aN G c w H){x:AV}{v:Value}(C:Rel c w x v){i:Bool}{r:bo ⊕ AV}(h:(vj x i).run H=some r)(ty:TypeId):aX G c w H nm r ((Instr.next v i ty).run P w):=by
 unfold vj at h;split at h
 . rename_i k
   obtain⟨o,t,h⟩:=lL h;cases o with
   | arr _ _=>exact(aF h).elim
   | mp _=>exact(aF h).elim
   | cm _ _=>exact(aF h).elim
   | lp _ _ _ _ _=>exact(aF h).elim
   | dJ s a =>
     cases C with
     | @ptr _ _ _ _ _ B q =>
       obtain⟨S,j,R,n,y,F⟩:=p.obj k _ t;rw[q] at j;cases j;have I:(⟨B.b,B.s+(0 * B.sz+0),none⟩:Addr)=⟨B.b,0,none⟩:=by rw[y];simp
       rw[I];have e:(⟨s.toArray⟩:ByteArray).size=s.length:=by simp[ByteArray.size]
       rcases sR h with⟨m,h⟩|⟨m,h⟩
       . obtain ⟨l, rfl⟩ := jA h
         have g:a<(⟨s.toArray⟩:ByteArray).size:=by rw[e];simpa using m
         obtain⟨K,M⟩:=p.bV t q l (.stringIter ⟨s.toArray⟩ (a+hP s a)) (.dJ s (a+hP s a)) (fun Q N _ _=>⟨N,y,F⟩)
         refine⟨.tuple #[.bool true,goInt a,.int .i32 (jK s a)],_,_,?_,K,M,?_,fun _ _=>rfl⟩
         . simp only [Instr.next, Sem.run_bind, KD n, Result.andThen_ok, g, if_true, Sem.run_pure]
           rw[show Utf8.decode ⟨s.toArray⟩ a=(A8 s a) from rfl]
           simp only[Sem.run_bind,Yd n,Result.andThen_ok,Sem.run_pure];rfl
         . have := aP.cons (c := c) (w := { w with heap := w.heap.setIfInBounds B.b (.stringIter ⟨s.toArray⟩ (a + hP s a)) }) (.bool true) (.cons (.int .i64 a) (.cons (.int .i32 (jK s a)) .nil))
           exact .ao this.1 this.2
       . obtain rfl := bE h
         have g:¬a<(⟨s.toArray⟩:ByteArray).size:=by
          rw[e];intro z;rw[show blt a s.length=true by simpa using z] at m;cases m
         rw[show(Instr.next (.pointer (some ⟨B.b,0,none⟩)) true ty).run P w = .ok (.tuple #[.bool false]) w by
          simp only[Instr.next,Sem.run_bind,KD n,Result.andThen_ok,g,zb8,Sem.run_pure]]
         have:=aP.cons (c:=c) (w:=w) (.bool false) .nil;exact aX.quiet p (.ao this.1 this.2)
 . exact(aF h).elim
end
end Go.Ago
end
section
namespace Go.Ago
open List Nat
theorem qF {a:Int}{x:AV}{l:List (Int×AV)}:cu ((a,x)::l)↔(∀k y,(k,y)∈l->a<k)∧cu l:=by
 unfold cu;simp
theorem GY:∀{es:List (Int×AV)} {k:Int} {x:AV},gq es k=some x->(k,x)∈es
 | [],_,_,h=>by cases h
 | (a, y) :: l, k, x, h => by
   simp[gq] at h
   by_cases e:a=k
   . grind
   rw[zbT e] at h;exact zbO _ (GY h)
theorem Bs:∀{es:List (Int×AV)} {k:Int} {x:AV},cu es->(k,x)∈es->gq es k=some x
 | (a, y) :: l, k, x, c, h => by
   obtain⟨d,f⟩:=qF.1 c;simp[gq];rcases zbB.1 h with e|e
   . grind
   have:=d k x e;rw[zbT aa];exact Bs f e
theorem ja:∀{es:List (Int×AV)} {k:Int} {v:AV},cu es->∀(j:Int) (x:AV),(j,x)∈eu es k v↔(j=k∧x=v)∨((j,x)∈es∧j≠k)
 | [],k,v,_,j,x=>by simp[eu]
 | (a, y) :: l, k, v, d, j, x => by
   obtain⟨f,e⟩:=qF.1 d;simp only[eu]
   by_cases c:a<k
   . rw [zbF c]
     rw[zbB,ja e]
     grind
   grind
theorem nK:∀{es:List (Int×AV)} {k:Int} {v:AV},cu es->cu (eu es k v)
 | [],k,v,_=>by simp[eu,cu]
 | (a, y) :: l, k, v, f => by
   obtain⟨h,g⟩:=qF.1 f;simp only[eu]
   by_cases d:a<k
   . rw [zbF d]
     dsimp only;refine qF.2 ⟨fun j x e=>?_,nK g⟩
     rcases(ja g j x).1 e with⟨rfl,_⟩|⟨e,_⟩
     . omega
     grind
   . rw [zbT d]
     dsimp only
     by_cases b:a=k
     . rw [zbF b]
       dsimp only;subst b
       assumption
     . rw [zbT b]
       dsimp only;refine qF.2 ⟨fun j x e=>?_,f⟩
       grind
theorem GZ {k:Int}:∀(es:List MapEntry) (i:Nat),(∀e∈es,∃j,e.key = .int .i64 j)->
 (Instr.findNow (.int .i64) (.int .i64 k) es i=some none∧∀e∈es,e.key≠.int .i64 k)∨∃j e,Instr.findNow (.int .i64) (.int .i64 k) es i=some (some (i+j,e.val))∧es[j]? = some e∧e.key = .int .i64 k
 | [],i,_ => .inl ⟨rfl,fun e d=>(by cases d)⟩
 | e :: es, i, h => by
   obtain⟨a,f⟩:=h e zck;simp only[Instr.findNow,f,Instr.sameNow,if_true]
   by_cases n:k=a
   . subst n
     rw[show(k == k)=true by simp]
     exact .inr ⟨0,e,rfl,rfl,f⟩
   . rw [show (k == a) = false by grind]
     rcases GZ es (i+1) (fun e d=>h e (zbO _ d)) with⟨g,l⟩|⟨j,m,g,l,p⟩
     . refine .inl ⟨g, fun m o => ?_⟩
       grind
     . refine .inr ⟨j + 1, m, ?_, l, p⟩
       grind
section
variable {P:Program} {E:Env} {G:eZ} {c:Ctx} {w:World} {H:aj} {nm:Nat}
theorem vf {d:TypeId}(h:P.underlying d=some (.int .i64))(b:Bool)(k:Int)(w:World):(Instr.checkKey b 10000 d (.int .i64 k)).run P w = .ok () w:=by
 rw[Instr.checkKey];simp[run_underlying h]
theorem KC {b:TypeId}(h:P.underlying b=some (.int .i64)){es:List MapEntry}(d:∀e∈es,∃j,e.key = .int .i64 j)(k:Int)(w:World) :
 ((Instr.findKey b (.int .i64 k) es).run P w = .ok none w∧∀e∈es,e.key≠.int .i64 k)∨∃j e,(Instr.findKey b (.int .i64 k) es).run P w = .ok (some (j,e.val)) w∧es[j]? = some e∧e.key = .int .i64 k:=by
 unfold Instr.findKey;simp[run_underlying h];rcases GZ (k:=k) _ 0 d with⟨f,g⟩|⟨j,e,f,g,i⟩
 . simp_all
 rw[f];exact .inr ⟨j,e,ag,g,i⟩
theorem iO.keys {R:AV->Value->Prop}{es:List (Int×AV)}{a:List MapEntry}(h:iO R es a):∀e∈a,∃j,e.key = .int .i64 j:=by
 obtain⟨f,d,b,_⟩:=h
 grind
theorem iO.none_ {R:AV->Value->Prop}{es:List (Int×AV)}{a:List MapEntry}(h:iO R es a){k:Int}(g:∀e∈a,e.key≠.int .i64 k):gq es k=none:=by
 obtain⟨f,b,_,_⟩:=h;cases d:gq _ k with
 | none=>rfl
 | some x =>
   obtain⟨j,i⟩:=b k x (GY d)
   grind
theorem iO.some_ {R:AV->Value->Prop}{es:List (Int×AV)}{a:List MapEntry}(h:iO R es a)(o:cu es){k:Int}{e:MapEntry}(p:e∈a)(i:e.key = .int .i64 k):∃x,gq es k=some x∧R x e.val:=by
 obtain⟨f,l,m,n⟩:=h;obtain⟨j,x,b,rfl⟩:=m e p;have:=(l j x b).2;rw[i] at *
 injection this with _ g
 subst g;exact⟨x,Bs o b,n _ x b⟩
theorem KE {t:TypeId}{a:AV}{f:TI->Int->Rd}{x:bo ⊕ AV}(h:(Eo E t a f).run H=some x) :
 ∃b j g d e k,a = .int .i64 k∧E.ti t=some b∧b.desc = .map j g∧E.ti j=some d∧d.desc = .int .i64∧E.ti g=some e∧(f e k).run H=some x:=by
 obtain⟨b,r,h⟩:=cL h;cases l:b.desc with
 | map j g =>
   rw[l] at h;cases a with
   | int q k =>
     cases q<;>first|exact(aF h).elim|skip
     obtain⟨d,p,h⟩:=cL h;cases m:d.desc with
     | int q =>
       rw[m] at h;cases q<;>first|exact(aF h).elim|skip
       obtain⟨e,o,h⟩:=cL h
       grind
     | _=>rw[m] at h;exact(aF h).elim
   | _=>exact(aF h).elim
 | _=>rw[l] at h;exact(aF h).elim
theorem VI {t:TypeId}(i:aN G c w H)(d:c.f nm=none){r:bo ⊕ AV}(h:(iI (.cX nm) nm (.mp [])).run H=some r):aX G c w H nm r ((Instr.makeMap t none).run P w):=by
 obtain⟨a,rfl⟩:=jA h;obtain⟨j,m⟩:=i.vR d a _ (.mp []) (n:=0) (fun o p l _ _=>⟨⟨rfl,rfl⟩,#[],0,l,⟨ag,ag⟩,by simp[cu],fun _=>default,(fun k x e=>by cases e),ag,(fun k x e=>by cases e)⟩)
 refine⟨.map (some w.heap.size),_,_,?_,j,m,?_,fun k g=>by simp[Ctx.bind,g]⟩
 . rfl
 exact Rel.cX (B:=⟨w.heap.size,0,0,0⟩) (by simp[Ctx.bind])
theorem Vt {z:AV}{b:Value}(a:Bool)(d:Rel c w z b):Rel c w (nu z a none) (if a then .tuple #[b,.bool false] else b):=by
 cases a with
 | true=>exact Rel.ao rfl (aP.cons d (.cons (.bool _) .nil)).2
 | false=>exact d
theorem Vu {z x:AV}{v:Value}(a:Bool)(b:Rel c w x v):Rel c w (nu z a (some x)) (if a then .tuple #[v,.bool true] else v):=by
 cases a with
 | true=>exact Rel.ao rfl (aP.cons b (.cons (.bool _) .nil)).2
 | false=>exact b
theorem Vz (K:bZ P E)(Q:aN G c w H){t:TypeId}{x D:AV}{v V:Value}{y:Bool}(hx:Rel c w x v)(hk:Rel c w D V){r:bo ⊕ AV}(h:(KZ E t x D y).run H=some r) :
 aX G c w H nm r ((Instr.lookup t v V y).run P w):=by
 obtain⟨ti,J,W,tk,N,k,rfl,h1,h2,Y,h4,h5,h⟩:=KE h;obtain⟨d,M,Z,I⟩:=jW (K.ti t ti h1);rw[h2] at I;obtain rfl:d = .map J W:=I;obtain⟨dk,hdk,i,q⟩:=jW (K.ti J tk Y);rw[h4] at q;obtain rfl:dk = .int .i64:=q;obtain⟨z,O,_,_,_,C⟩:=Du (K.ti W N h5) w;have C:Rel c w (vB N) z:=C c w;cases hk;have l:∀(b:Array MapEntry) (s:List (Int×AV)) (R:AV->Value->Prop),cu s->iO R s b.toList->(∀x v,R x v->Rel c w x v)->
  ∀(p:Result Value),((Instr.findKey J (.int .i64 k) b.toList).run P w = .ok none w->p = .ok (if y then .tuple #[z,.bool false] else z) w)->(∀j v,(Instr.findKey J (.int .i64 k) b.toList).run P w = .ok (some (j,v)) w->p = .ok (if y then .tuple #[v,.bool true] else v) w)->
  aX G c w H nm (.inl ⟨nu (vB N) y (gq s k),[]⟩) p:=by
  intro b s R L n hR p r1 r2;rcases KC i n.keys k w with⟨S,U⟩|⟨j,e,S,U,g3⟩
  . rw [r1 S, n.none_ U]
    exact aX.quiet Q (Vt y C)
  . obtain ⟨x, e1, e2⟩ := n.some_ L (zby U) g3
    rw[r2 _ _ S,e1];exact aX.quiet Q (Vu y (hR _ _ e2))
 cases hx with
 | fS =>
   obtain rfl:=bE h;refine l #[] [] (fun _ _=>False) iq ⟨fun _=>default,(fun k x e=>by cases e),ag,(fun k x e=>by cases e)⟩ (fun _ _ h=>h.elim) _ (fun g=>?_) (fun j u g=>?_)
   all_goals simp[Instr.lookup,M,vf i,g,O]
 | @cK _ _ s m A b f hi hm hb L T he hr =>
   obtain rfl:=bE h;refine l b s (Rel c.bare w) L ⟨f,T,he,hr⟩ (fun _ _ h=>h.oJ) _ (fun g=>?_) (fun j u g=>?_)
   all_goals simp[Instr.lookup,M,vf i,g,O,run_getObj_map hm]
 | @cX _ _ k' B T =>
   obtain⟨o,ho,h⟩:=lL h;cases o with
   | mp s =>
     obtain rfl:=bE h;obtain⟨B',F,hBi,_,b,A,a1,a2,a3,a4⟩:=Q.obj k' _ ho;rw[T] at F;cases F;refine l b s (Rel c w) a3 a4 (fun _ _ h=>h) _ (fun g=>?_) (fun j u g=>?_)
     all_goals simp[Instr.lookup,M,vf i,g,O,run_getObj_map a1]
   | _=>exact(aF h).elim
 | _=>exact(aF h).elim
theorem Rp {R:AV->Value->Prop}{es:List (Int×AV)}{arr:Array MapEntry}{g:Nat}{k:Int}{x:AV}{v:Value}(I:py arr g)(F:cu es)(h:iO R es arr.toList)(T:R x v){i:Nat}{e:MapEntry}(D:arr.toList[i]? = some e)(M:e.key = .int .i64 k) :
 py (arr.modify i fun e=>{ e with key := .int .i64 k,val:=v }) g∧iO R (eu es k x) (arr.modify i fun e=>{ e with key := .int .i64 k,val:=v }).toList:=by
 have l:∀p:Nat,(arr.modify i fun e=>{ e with key := .int .i64 k,val:=v }).toList[p]? = Functor.map (fun a=>if i=p then { a with key := .int .i64 k,val:=v } else a) arr.toList[p]?:=fun p=>by
  grind
 have z:(arr.modify i fun e=>{ e with key := .int .i64 k,val:=v }).toList.map (·.born)=arr.toList.map (·.born):=by
  refine ext_getElem? fun p=>?_
  rw[zbC,zbC,l];cases arr.toList[p]? with
  | none=>rfl
  | some a=>grind
 have o:∀a,a∈(arr.modify i fun e=>{ e with key := .int .i64 k,val:=v }).toList->∃(p:Nat) (b:MapEntry),arr.toList[p]? = some b∧a=if i=p then { b with key := .int .i64 k,val:=v } else b:=by
  intro a s;obtain⟨p,u⟩:=zcN.1 s;rw[l] at u;cases n:arr.toList[p]? with
  | none=>grind
  | some b=>grind
 refine⟨⟨fun a s=>?_,by rw[z];exact I.nd⟩,?_⟩
 . obtain ⟨p, b, n, rfl⟩ := o a s
   have:=I.lt b (zby n)
   grind
 . obtain ⟨f, L, K, U⟩ := h
   
   have t:∀(p q:Nat) (a b:MapEntry),arr.toList[p]? = some a->arr.toList[q]? = some b->a.born=b.born->p=q:=fun p q a b s n O=>by
    have u:p<(arr.toList.map (·.born)).length:=by rw[zba];exact(zbn.1 s).1
    refine(getElem?_inj u I.nd).1 ?_
    grind
   refine⟨fun j=>if j=k then { e with key := .int .i64 k,val:=v } else f j,fun j y r=>?_,fun a s=>?_,fun j y r=>?_⟩
   . dsimp only
     rcases(ja F j y).1 r with⟨rfl,rfl⟩|⟨r,d⟩
     . grind
     . rw [if_neg d]
       obtain⟨N,A⟩:=L j y r;refine⟨?_,A⟩;obtain⟨p,u⟩:=zcN.1 N;refine zcN.2 ⟨p,?_⟩;rw[l,u];have:i≠p:=by
        rintro rfl
        rw[D] at u;cases u;rw[M] at A
        injection A with _ A
        exact d A.symm
       grind
   . obtain ⟨p, b, n, rfl⟩ := o a s
     by_cases m:i=p
     . rw [if_pos m]
       subst m;rw[D] at n;cases n;exact⟨k,x,(ja F k x).2 (.inl ⟨rfl,rfl⟩),(if_pos rfl).symm⟩
     . rw [if_neg m]
       obtain⟨j,y,r,rfl⟩:=K b (zby n);have d:j≠k:=by
        rintro rfl
        obtain⟨Q,S,J,B⟩:=K e (zby D);have C:=(L Q S J).2;rw[<-B,M] at C
        injection C with _ C
        subst C;exact m (t i p _ _ D n (by rw[B]))
       exact⟨j,y,(ja F j y).2 (.inr ⟨r,d⟩),(if_neg d).symm⟩
   . dsimp only
     rcases(ja F j y).1 r with⟨rfl,rfl⟩|⟨r,d⟩
     . grind
     grind
theorem Ro {R:AV->Value->Prop}{es:List (Int×AV)}{arr:Array MapEntry}{d:Nat}{k:Int}{x:AV}{v:Value}(o:py arr d)(m:cu es)(h:iO R es arr.toList)(u:R x v)(z:∀e∈arr.toList,e.key≠.int .i64 k) :
 py (arr.push { key := .int .i64 k,val:=v,born:=d }) (d+1)∧iO R (eu es k x) (arr.push { key := .int .i64 k,val:=v,born:=d }).toList:=by
 rw[show(arr.push { key := .int .i64 k,val:=v,born:=d }).toList=arr.toList++[{ key := .int .i64 k,val:=v,born:=d }] by simp]
 refine⟨⟨fun a g=>?_,?_⟩,?_⟩
 . rw [show (arr.push { key := .int .i64 k, val := v, born := d }).toList = arr.toList ++ [{ key := .int .i64 k, val := v, born := d }] by simp] at g
   rcases zbL.1 g with g|g
   . have:=o.lt a g;omega
   grind
 . rw [show (arr.push { key := .int .i64 k, val := v, born := d }).toList = arr.toList ++ [{ key := .int .i64 k, val := v, born := d }] by simp, zb9, nodup_append]
   refine⟨o.nd,ag,fun a g b p=>?_⟩
   obtain⟨e,r,rfl⟩:=zbG.1 g;simp only[zcq,map_nil,zbU] at p;subst p;have:=o.lt e r;omega
 . obtain ⟨f, s, q, t⟩ := h
   have l:∀j y,(j,y)∈es->j≠k:=fun j y i e=>by
    grind
   refine⟨fun j=>if j=k then { key := .int .i64 k,val:=v,born:=d } else f j,fun j y i=>?_,fun a g=>?_,fun j y i=>?_⟩
   . dsimp only
     rcases(ja m j y).1 i with⟨rfl,rfl⟩|⟨i,n⟩
     . simp
     grind
   . rcases zbL.1 g with g | g
     . obtain ⟨j, y, i, rfl⟩ := q a g
       exact⟨j,y,(ja m j y).2 (.inr ⟨i,l j y i⟩),(if_neg (l j y i)).symm⟩
     . rw [zbU.1 g]
       exact⟨k,x,(ja m k x).2 (.inl ⟨rfl,rfl⟩),(if_pos rfl).symm⟩
   . dsimp only
     rcases(ja m j y).1 i with⟨rfl,rfl⟩|⟨i,n⟩
     . grind
     grind
theorem VK (R:bZ P E)(K:aN G c w H){t:TypeId}{m y x:AV}{U V v:Value}(hm:Rel c w m U)(hk:Rel c w y V)(T:Rel c w x v){r:bo ⊕ AV}(h:(K1 E t m y x).run H=some r) :
 ∃l w',r = .inl l∧(Instr.mapUpdate t U V v).run P w = .ok () w'∧Ext c w H c w' (bo.dK H l.up)∧aN G c w' (bo.dK H l.up)∧l.val = .any:=by
 obtain⟨ti,S,et,tk,te,k,rfl,h1,h2,h3,h4,h5,h⟩:=KE h;obtain⟨d,hd,hd',u⟩:=jW (R.ti t ti h1);rw[h2] at u;obtain rfl:d = .map S et:=u;obtain⟨dk,hdk,f,n⟩:=jW (R.ti S tk h3);rw[h4] at n;obtain rfl:dk = .int .i64:=n;cases hk;cases hm with
 | @cX _ _ k' B D =>
   obtain⟨o,Q,h⟩:=lL h;cases o with
   | mp W =>
     obtain⟨p,rfl⟩:=jA h;obtain⟨B',s,hBi,Y,i,b,A,X,z,I⟩:=K.obj k' _ Q;rw[D] at s;cases s;rcases KC f I.keys k w with⟨J,C⟩|⟨j,e,J,C,Z⟩
     . obtain ⟨L, F⟩ := Ro X z I T C
       obtain⟨N,M⟩:=K.bV Q D p (.map (i.push { key := .int .i64 k,val:=v,born:=b }) (b+1)) (.mp (eu W k x)) (fun w' O g _=>⟨Y,_,_,O,L,nK z,F.mono fun _ _ h=>g h⟩)
       refine⟨_,_,rfl,?_,N,M,rfl⟩;simp only[Instr.mapUpdate,Sem.run_bind,hd,Result.andThen_ok,run_getObj_map A,vf f,J,run_setObj_map A]
     . obtain ⟨L, F⟩ := Rp X z I T C Z
       obtain⟨N,M⟩:=K.bV Q D p (.map (i.modify j fun e=>{ e with key := .int .i64 k,val:=v }) b) (.mp (eu W k x)) (fun w' O g _=>⟨Y,_,_,O,L,nK z,F.mono fun _ _ h=>g h⟩)
       refine⟨_,_,rfl,?_,N,M,rfl⟩;have hg:i[j]? = some e:=by rw[<-zcJ];exact C
       have q:(Instr.keyThatStays (((i[j]?).map (·.key)).getD (.int .i64 k)) (.int .i64 k)).run P w = .ok (.int .i64 k) w:=by
        rw[hg];simp only[zcn,zcb,Z];unfold Instr.keyThatStays;rw[if_pos (by rw[Instr.sameBits];simp)]
        simp only[Sem.run_pure]
       simp only[Instr.mapUpdate,Sem.run_bind,hd,Result.andThen_ok,run_getObj_map A,vf f,J,q,run_setObj_map A]
   | _=>exact(aF h).elim
 | _=>exact(aF h).elim
theorem Ru (n:aN G c w H){x:AV}{v:Value}(I:Rel c w x v){r:bo ⊕ AV}(h:(Dx x).run H=some r):aX G c w H nm r ((Instr.entry v).run P w):=by
 unfold Dx at h;split at h
 . rename_i k
   obtain⟨o,z,h⟩:=lL h;cases o with
   | cm i S =>
     cases i with
     | none=>exact(aF h).elim
     | some p =>
       obtain⟨j,y⟩:=p;obtain rfl:=bE h;cases I with
       | @ptr _ _ _ _ _ B t =>
         obtain⟨U,f,V,⟨O,R⟩,D,l,a,seen,J,T,u,C,W,Q,A⟩:=n.obj k _ z;rw[t] at f;cases f;obtain⟨d,e,rfl,L,K,M⟩:=A j y rfl;have N:(⟨B.b,B.s+(0 * B.sz+0),none⟩:Addr)=⟨B.b,0,none⟩:=by grind
         rw[N,run_entry_at w B.b D a d l a e J u L C.nd,K];have:=aP.cons (.int .i64 j) (.cons M.oJ .nil);exact aX.quiet n (.ao this.1 this.2)
   | _=>exact(aF h).elim
 . exact(aF h).elim
end
end Go.Ago
end
section
namespace Go.Ago
open List Nat
section
variable {P:Program} {E:Env} {G:eZ} {c:Ctx} {w:World} {H:aj} {nm:Nat}
def Ab (G:eZ)(c:Ctx)(w:World)(H:aj)(nm:Nat):bo ⊕ AV->Result Next->Prop
 | .inl a,b=>∃g e d,b = .ok g e∧Ext c w H d e (bo.dK H a.up)∧aN G d e (bo.dK H a.up)∧(∀k,k≠nm->d.f k=c.f k) ∧
  ((∃v,g = .value v∧Rel d e a.val v)∨(g = .skip∧a.val = .any))
 | .inr x,b=>∃v,b = .halt (.panic v) w∧Rel c w x v
theorem aX.next {r:bo ⊕ AV}{s:Sem Value}(h:aX G c w H nm r (s.run P w)):Ab G c w H nm r ((do pure (Next.value (<-s)):Sem Next).run P w):=by
 cases r with
 | inl d =>
   obtain⟨v,e,f,g,a,j,k,l⟩:=h;exact⟨.value v,e,f,by simp_all,a,j,l,.inl ⟨v,rfl,k⟩⟩
 | inr x =>
   obtain⟨v,g,a⟩:=h;exact⟨v,by simp_all,a⟩
theorem aX.of_next {r:bo ⊕ AV}{a:Result Next}{x:AV}{v:Value}(d:aN G c w H)(e:Rel c w x v)(h:r = .inl ⟨x,[]⟩)(b:a = .ok (.value v) w):Ab G c w H nm r a:=by
 subst h;subst b;exact⟨_,w,c,rfl,Ext.refl c w H,d,fun _ _=>rfl,.inl ⟨v,rfl,e⟩⟩
theorem AF {ρ:Operand->AV}{b:Operand->Value}(a:∀x,Rel c w (ρ x) (b x))(o:Option Operand):kC c w (o.map ρ) (o.map b):=by
 cases o with
 | none=>trivial
 | some x=>exact a x
theorem oS {ρ:Operand->AV}{a:Operand->Value}(b:∀x,Rel c w (ρ x) (a x))(l:List Operand):aP c w (l.map ρ) (l.map a):=
 ⟨ag,fun i x v e d=>by
  grind⟩
theorem JA {ρ:Operand->AV}{a:Operand->Value}(b:∀x,Rel c w (ρ x) (a x))(l:List (Nat×Operand)) :
 ∀(i:Nat) (p:Nat×AV) (q:Nat×Value),(l.map fun (i,x)=>(i,ρ x))[i]? = some p->(l.map fun (i,x)=>(i,a x))[i]? = some q->p.1=q.1∧Rel c w p.2 q.2:=by
 grind
theorem Dy (C:bZ P E)(p:aN G c w H)(Q:c.f nm=none){ρ:Operand->AV}{N:Operand->Value}(g:∀x,Rel c w (ρ x) (N x))(o:Oper){r:bo ⊕ AV}(h:(cf E nm ρ o.op).run H=some r) :
 Ab G c w H nm r ((execOp N o).run P w):=by
 obtain⟨dst,op,I,pos,after,guard⟩:=o;cases op<;>(try exact(aF h).elim)
 case move x=>exact aX.of_next p (g x) (bE h) rfl
 case assign x=>exact aX.of_next p (g x) (bE h) rfl
 case pick a b d=>
  have ha:=g a;simp only[cf,K2] at h;cases hb:ρ a<;>rw[hb] at h ha<;>(try exact(aF h).elim)
  rename_i t
  generalize K:N a=sv at ha
  cases ha;rcases sR h with⟨rfl,h⟩|⟨rfl,h⟩
  . exact aX.of_next p (g b) (bE (H:=H) h) (by simp[execOp,K,asBool])
  . exact aX.of_next p (g d) (bE (H:=H) h) (by simp[execOp,K,asBool])
 case alloc t=>exact(Od C p Q h).next
 case box t x=>exact(Pc C p Q (g x) h).next
 case build t Z=>
  have:=Pe (nm:=nm) C p ag (JA g Z.toList) h;have e:(List.map (fun (x:Nat×Operand)=>(x.1,N x.2)) Z.toList).toArray=Z.map (fun x=>(x.1,N x.2)):=zcd ag
  rw[e] at this;exact this.next
 case buildSlice t n Z=>
  have:=Pd (nm:=nm) C p Q ag (JA g Z.toList) h;have e:(List.map (fun (x:Nat×Operand)=>(x.1,N x.2)) Z.toList).toArray=Z.map (fun x=>(x.1,N x.2)):=zcd ag
  rw[e] at this;exact this.next
 case load t a=>exact(Vw C p (g a) h).next
 case store t a x=>
  obtain⟨eff,w',c',rfl,X,M,h3,h4,h5⟩:=ZN C p (g a) (g x) h;exact⟨.skip,w',c',by simp[execOp,X],M,h3,fun k _=>h5 k,.inr ⟨rfl,h4⟩⟩
 case nilCheck x=>
  have hx:=g x;simp only[cf] at h
  generalize ρ x=a at h hx
  generalize K:N x=v at hx
  cases hx with
  | ptr hf=>exact aX.of_next p (.ptr hf) (bE h) (by simp[execOp,K])
  | bm hi hl hc hr=>exact aX.of_next p (.bm hi hl hc hr) (bE h) (by simp[execOp,K])
  | fn f X M J hr2 =>
    cases f<;>(try exact(aF h).elim)
    exact aX.of_next p (.fn _ X M J hr2) (bE h) (by simp[execOp,K])
  | cG t hy=>exact aX.of_next p (.cG t hy) (bE h) (by simp[execOp,K])
  | _=>exact(aF h).elim
 case binOp op t x y t2=>exact(OU C p (g x) (g y) h).next
 case unOp op t x=>exact(zap p (g x) h).next
 case convert s d x=>exact(QZ C p (g x) h).next
 case makeInterface t x=>exact(Tm C p (g x) h).next
 case makeFunc f xs ys=>
  refine aX.of_next (v := .func f (xs.map N) (ys.map N)) p ?_ (bE h) aB;have X:=oS g xs.toList;have M:=oS g ys.toList;have:=Rel.fn f X.1 M.1 X.2 M.2;have e:∀l:Array Operand,(l.toList.map N).toArray=l.map N:=fun l=>zcd ag
  grind
 case makeSlice t l k=>exact(VJ C p Q (g l) (g k) h).next
 case slice t x lo hi mx=>exact(Y6 C p (g x) (AF g lo) (AF g hi) (AF g mx) h).next
 case fieldAddr t x f=>exact(RZ C p (g x) h).next
 case field t x f=>exact(R2 C p (g x) h).next
 case indexAddr t x i=>exact(TN C p (g x) (g i) h).next
 case index t x i=>exact(TO C p (g x) (g i) h).next
 case typeAssert x st t ok=>exact(OF C p (g x) h).next
 case extract x i=>exact(RU p (g x) h).next
 case range t x=>exact(XI C p Q (g x) h).next
 case makeMap t res=>
  cases res with
  | some x=>exact(aF h).elim
  | none=>exact(VI p Q h).next
 case lookup t x i ok=>exact(Vz C p (g x) (g i) h).next
 case mapUpdate t m k v=>
  obtain⟨eff,w',rfl,X,M,h3,h4⟩:=VK C p (g m) (g k) (g v) h;exact⟨.skip,w',c,by simp[execOp,X],M,h3,fun _ _=>rfl,.inr ⟨rfl,h4⟩⟩
 case entry x=>exact(Ru p (g x) h).next
 case next x str=>exact(Wf p (g x) h _).next
 case panic x=>
  have hx:=g x;simp only[cf] at h
  generalize ρ x=a at h hx
  generalize K:N x=v at hx
  cases hx with
  | @cG _ _ t y u hy =>
    have:r = .inr (.cG t y):=by simp[Rd.run] at h;exact h.symm
    subst this;exact⟨.iface t u,by simp[execOp,K,Instr.panic,Result.andThen],.cG t hy⟩
  | _=>exact(aF h).elim
 case call cl=>
  obtain⟨T,L,S⟩:=cl;cases T<;>(try exact(aF h).elim)
  rename_i b;have z:=oS g L.toList;have F:L.map N=(L.toList.map N).toArray:=zcd ag;simp only[cf,yM] at h
  generalize hA:L.toList.map ρ=A at h z
  generalize hV:L.toList.map N=V at z F
  cases b<;>(try exact(aF h).elim)
  case append=>
   match O:S.toList,A,h,z with
   | [t, tx], [s, x], M, j =>
     obtain⟨v1,V1,rfl,J,q⟩:=j.dP;obtain⟨v2,V2,rfl,hr2,U⟩:=q.dP;obtain rfl:=U.fX;have D:S=#[t,tx]:=by apply zcd;simpa using O
     subst D;have:=Oo (ty:=I) C p Q J hr2 M;simp only[execOp,resolve,invoke,builtin,Sem.run_bind,Sem.run_pure,Result.andThen_ok,F]
     simpa using this.next (P:=P)
  case len=>
   match O:S.toList,A,h,z with
   | [t], [x], M, j =>
     obtain⟨v1,V1,rfl,J,q⟩:=j.dP;obtain rfl:=q.fX;have D:S=#[t]:=by apply zcd;simpa using O
     subst D;have:=Vb (nm:=nm) (ty:=I) C p J M;simp only[execOp,resolve,invoke,builtin,Sem.run_bind,Sem.run_pure,Result.andThen_ok,F]
     simpa using this.next (P:=P)
  case cap=>
   match O:S.toList,A,h,z with
   | [t], [x], M, j =>
     obtain⟨v1,V1,rfl,J,q⟩:=j.dP;obtain rfl:=q.fX;have D:S=#[t]:=by apply zcd;simpa using O
     subst D;have:=PL (nm:=nm) (ty:=I) C p J M;simp only[execOp,resolve,invoke,builtin,Sem.run_bind,Sem.run_pure,Result.andThen_ok,F]
     simpa using this.next (P:=P)
  case clear=>
   match O:S.toList,A,h,z with
   | [t], [x], M, j =>
     obtain⟨v1,V1,rfl,J,q⟩:=j.dP;obtain rfl:=q.fX;have D:S=#[t]:=by apply zcd;simpa using O
     subst D;have:=Qu (nm:=nm) (ty:=I) C p J M;simp only[execOp,resolve,invoke,builtin,Sem.run_bind,Sem.run_pure,Result.andThen_ok,F]
     simpa using this.next (P:=P)
  case max=>
   have:=IN (P:=P) (nm:=nm) (ts:=S) (ty:=I) (mx:=true) p z h;simp only[execOp,resolve,invoke,builtin,Sem.run_bind,Sem.run_pure,Result.andThen_ok,F]
   simpa using this.next (P:=P)
  case min=>
   have:=IN (P:=P) (nm:=nm) (ts:=S) (ty:=I) (mx:=false) p z h;simp only[execOp,resolve,invoke,builtin,Sem.run_bind,Sem.run_pure,Result.andThen_ok,F]
   simpa using this.next (P:=P)
end
end Go.Ago
end
