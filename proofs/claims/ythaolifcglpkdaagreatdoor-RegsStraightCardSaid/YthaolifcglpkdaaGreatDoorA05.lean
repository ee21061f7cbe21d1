/-
  Part 5: lemmas, each with its own conditions.
-/
import Derived.Laws.AppendOwn
import Derived.Test.YthaolifcglpkdaaGreatDoorA04
set_option maxRecDepth 100000
set_option maxHeartbeats 0
set_option linter.all false
section
namespace Go.Ago
section
variable {P:Program} {E:Env} {G:zd9} {c:Ctx} {w:World} {H:zah} {nm:Nat}
theorem zj1 {L:List AV}{a:Addr}(h:∀(p:Nat) x,L[p]? = some x→∃v,w.cell? (a.add p)=some v∧Rel c w x v) :
 ∃us,RelL c w L us∧∀(j:Nat) v,us[j]? = some v→w.cell? (a.add j)=some v:=by
 have hex:∀p:Nat,∃v,∀x,L[p]? = some x→w.cell? (a.add p)=some v∧Rel c w x v:=by
  intro p;cases e:L[p]? with
  | none=>exact⟨undef,fun x h=>by cases h⟩
  | some x =>
    obtain⟨v,h1,h2⟩:=h p x e;exact⟨v,fun y hy=>by cases hy;exact⟨h1,h2⟩⟩
 let f:Nat→Value:=fun p=>(hex p).choose
 have hf:∀p x,L[p]? = some x→w.cell? (a.add p)=some (f p)∧Rel c w x (f p):=fun p=>(hex p).choose_spec
 refine⟨(List.range L.length).map f,zz2 f fun i x e=>(hf i x e).2,fun j v e=>?_⟩
 have hj:j<L.length:=by have:=(List.getElem?_eq_some_iff.1 e).1;simpa using this
 simp[hj] at e;subst e;exact(hf j _ (List.getElem?_eq_getElem hj)).1
structure Src (P:Program)(c:Ctx)(w:World)(size:Nat)(v:Value)(new:List (List AV))(us:List Value):Prop where
 len:∀w',(Builtin.lenOf v).run P w' = .ok new.length w'
 sz:∀(i:Nat) e,new[i]? = some e→e.length=size
 rel:RelL c w new.flatten us
 cells:∀w' n,w'.heap=w.heap→n≤new.length→(Builtin.firstCells size n v).run P w' = .ok (us.take (n * size)).toArray w'
theorem yb6 {w w':World}(h:w'.heap=w.heap)(a:Addr):w'.cell? a=w.cell? a:=by unfold World.cell?;rw[h]
theorem zub {size:Nat}{new:List (List AV)}{us:List Value}{a:Addr}{cap:Nat}(hsz:∀(i:Nat) e,new[i]? = some e→e.length=size)(hr:RelL c w new.flatten us)
 (hc:∀(j:Nat) v,us[j]? = some v→w.cell? (a.add j)=some v):Src P c w size (.slice (some a) new.length cap) new us :={
 len w':=by simp[Builtin.lenOf]
 sz:=hsz
 rel:=hr
 cells w' n hh hn:=by
  have hul:us.length=new.length * size:=by rw[← hr.1,(zcd hsz).1]
  have:n * size≤us.length:=by rw[hul];exact Nat.mul_le_mul_right _ hn
  exact run_firstCells_some w' size n a new.length cap (us.take (n * size)) (by simp; omega) (fun j v e=>by
   rw[List.getElem?_take] at e;split at e
   · rw[yb6 hh];exact hc j v e
   · cases e) }
theorem zoc (hw:WRel G c w H){size:Nat}(hs:0<size){x:AV}{v:Value}(hx:Rel c w x v){f:List (List AV)→Rd}{r:Eff ⊕ AV}(h:(zod size x f).run H=some r) :
 ∃new us,(f new).run H=some r∧Src P c w size v new us:=by
 cases hx with
 | nils=>exact⟨[],[],h,⟨fun w'=>by simp[Builtin.lenOf],by simp,.nil,fun w' n _ _=>by simp[Builtin.firstCells]⟩⟩
 | emptn=>exact⟨[],[],h,⟨fun w'=>by simp[Builtin.lenOf],by simp,.nil,fun w' n _ _=>by simp[Builtin.firstCells]⟩⟩
 | rnil sz =>
   obtain⟨_,hA⟩:=za1 h;exact⟨[],[],hA,⟨fun w'=>by simp[Builtin.lenOf],by simp,.nil,fun w' n _ _=>by simp[Builtin.firstCells]⟩⟩
 | empt a=>exact⟨[],[],h,⟨fun w'=>by simp[Builtin.lenOf],by simp,.nil,fun w' n _ hn=>by
  obtain rfl:n=0:=by simpa using hn
  simp[Builtin.firstCells,loadCells,loadCellsFrom]⟩⟩
 | @rsl _ _ sz es cap a vs hlen hi hl hc hr =>
   obtain⟨h0,hA⟩:=za1 h;clear h;have h0:sz=size:=by simpa using h0
   subst h0;obtain ⟨us, h1, h2⟩ := zj1 (c := c) (w := w) (L := es.flatten) (a := a) (fun p x e=>by
    obtain⟨el,e1,e2,e3,e4⟩:=zth hl e;refine⟨vs (p / sz) (p % sz),?_,(hr _ _ el x e3 e4).of_bare⟩;have:=hc (p / sz) (p % sz) (List.getElem?_eq_some_iff.1 e3).1 e2
    rwa [← e1] at this)
   exact⟨es,us,hA,zub hl h1 h2⟩
 | @slc _ _ k i len sz cap B a hf hsB hlen hcap =>
   obtain⟨o,ho,hA⟩:=zgn h;clear h;cases o with
   | sit _ _=>exact(zad hA).elim
   | lp _ _ _ _ _=>exact(zad hA).elim
   | mp _=>exact(zad hA).elim
   | mit _ _=>exact(zad hA).elim
   | arr sz' es =>
     obtain⟨h0,hB⟩:=za1 hA;clear hA;simp only[Bool.and_eq_true,beq_iff_eq] at h0;obtain⟨⟨h0,h1⟩,h2⟩:=h0;have h2:=Nat.le_of_ble_eq_true h2;subst h0;subst h1;have hsz:=(hw.sz ho hf).2.2;have hl:∀(j:Nat) e,((es.drop i).take len)[j]? = some e→e.length=sz':=fun j e he=>hsz _ e (zct i len j e he).1
     have hlen':((es.drop i).take len).length=len:=by simp;omega
     rcases Nat.eq_zero_or_pos len with hz|hpos
     · subst hz
       have he:(es.drop i).take 0=[]:=by simp
       rw[he] at hB;exact⟨[],[],hB,⟨fun w'=>by simp[Builtin.lenOf],by simp,.nil,fun w' n _ hn=>by
        obtain rfl:n=0:=by simpa using hn
        simp[Builtin.firstCells,loadCells,loadCellsFrom]⟩⟩
     · obtain ⟨rfl, _⟩ := hcap (by omega)
       obtain ⟨us, h1, h2⟩ := zj1 (c := c) (w := w) (L := ((es.drop i).take len).flatten) (a := ⟨B.b, B.s + i * sz', none⟩) (fun p x e=>by
        obtain⟨el,e1,e2,e3,e4⟩:=zth hl e;obtain⟨v,v1,_,v2⟩:=hw.cell ho hf (zct i len _ el e3).1 e4;refine⟨v,?_,v2⟩;rw[zcm,← v1]
        congr 2
        rw[Nat.add_mul];omega)
       have hsrc:=zub (P:=P) (cap:=cap) hl h1 h2;rw[hlen'] at hsrc;exact⟨_,us,hB,hsrc⟩
 | str l =>
   obtain⟨h0,hA⟩:=za1 h;clear h;have h0:size=1:=by simpa using h0
   subst h0;have hl:∀(i:Nat) e,(l.map fun b=>[AV.int .u8 b.toNat])[i]? = some e→e.length=1:=by
    intro i e he;simp only[List.getElem?_map,Option.map_eq_some_iff] at he;obtain⟨b,_,rfl⟩:=he;rfl
   have hfl:∀l:List UInt8,(l.map fun b=>[AV.int .u8 (b.toNat:Int)]).flatten=l.map fun b=>AV.int .u8 (b.toNat:Int):=by
    intro l
    induction l with
    | nil=>rfl
    | cons b l ih=>simp[ih]
   have hsize:(⟨l.toArray⟩:ByteArray).size=l.length:=by simp[ByteArray.size]
   refine⟨_,l.map fun b=>Value.int .u8 b.toNat,hA,⟨fun w'=>by simp[Builtin.lenOf,hsize],hl,?_,fun w' n _ hn=>?_⟩⟩
   · rw [hfl]
     refine⟨by simp,fun i x v e e'=>?_⟩
     simp only[List.getElem?_map,Option.map_eq_some_iff] at e e';obtain⟨b,hb,rfl⟩:=e;obtain⟨b',hb',rfl⟩:=e';rw[hb] at hb';cases hb';exact .int _ _
   · simp only [Builtin.firstCells, Sem.run_pure]
     congr 1
     apply Array.ext'
     rw[zke];simp
 | _=>exact(zad h).elim
theorem zwc {n b:Nat}(h:n * (b+1)≤140737488355328):n≤140737488355328∧n * b≤140737488355328:=by
 rw[Nat.mul_add,Nat.mul_one] at h;omega
section app
variable {t e tx:TypeId} {dx:TypeDesc} {ie:TypeInfo} {z:Value} {size:Nat} {x:Value} {new:List (List AV)} {us:List Value}
 (ht:P.underlying t=some (.slice e)) (htx:P.underlying tx=some dx) (hdx:∀k,dx≠.int k) (hie:P.info? e=some ie) (hsz:ie.size=size) (hz:ie.zero=some z) (hsrc:Src P c w size x new us)
include ht htx hdx hie hsz hsrc
theorem zm5 (ty:TypeId)(base:Option Addr)(sLen sCap:Nat)(hroom:sLen+new.length≤sCap) :
 (Builtin.append_ #[t,tx] ty #[.slice base sLen sCap,x]).run P w =
  match base with
  | some a=>((storeCells (a.add (sLen * size)) us).run P w).andThen fun _ w' => .ok (.slice base (sLen+new.length) sCap) w'
  | none => .ok (.slice base (sLen+new.length) sCap) w:=by
 have hzeros:∀w,((underlying tx).run P w) = .ok dx w:=fun w=>run_underlying htx w
 have hfc:=hsrc.cells w new.length rfl (Nat.le_refl _);have hul:us.length=new.length * size:=by rw[← hsrc.rel.1,(zcd hsrc.sz).1]
 rw[List.take_of_length_le (by omega)] at hfc
 have hsizeOf:(sizeOf e).run P w = .ok size w:=by simp[sizeOf,typeInfo,hie,hsz]
 have hz0:(dx matches .int _)=false:=by cases dx<;>first|rfl|exact absurd rfl (hdx _)
 simp only[Builtin.append_,List.getElem?_toArray,List.getElem?_cons_zero,List.getElem?_cons_succ,Sem.run_bind,run_underlying ht,Result.andThen_ok,hsizeOf,hzeros,Sem.run_pure,Bool.false_eq_true,if_false,hsrc.len,hroom,if_true,Bool.not_false,hfc];cases base<;>simp
include hz
theorem zm6 (ty:TypeId)(base:Option Addr)(sLen sCap:Nat)(hroom:¬sLen+new.length≤sCap){olds:List Value}(hold:∀w',w'.heap=w.heap→(Builtin.firstCells size sLen (.slice base sLen sCap)).run P w' = .ok olds.toArray w')
 (hb:(sLen+new.length) * (ie.bytes+1)≤140737488355328) :
 (Builtin.append_ #[t,tx] ty #[.slice base sLen sCap,x]).run P w =
  .ok (.slice (some ⟨w.heap.size,0,none⟩) (sLen+new.length) (grownCap w (sLen+new.length) sCap e))
   (w.drew.alloc (.cells (olds.toArray++us.toArray++Builtin.zeroCells z.cells (grownCap w (sLen+new.length) sCap e - (sLen+new.length))) e)):=by
 have hzeros:∀w,((underlying tx).run P w) = .ok dx w:=fun w=>run_underlying htx w
 have hfc:=hsrc.cells w.drew new.length rfl (Nat.le_refl _);have hul:us.length=new.length * size:=by rw[← hsrc.rel.1,(zcd hsrc.sz).1]
 rw[List.take_of_length_le (by omega)] at hfc
 have hsizeOf:∀w,(sizeOf e).run P w = .ok size w:=fun w=>by simp[sizeOf,typeInfo,hie,hsz]
 have hinfo:∀w,(typeInfo e).run P w = .ok ie w:=fun w=>by simp[typeInfo,hie]
 have hzero:∀w,(zeroValue e).run P w = .ok z w:=fun w=>by simp[zeroValue,typeInfo,hie,hz]
 obtain⟨hb1,hb2⟩:=zwc hb;have h63':¬(((sLen+new.length:Nat):Int) > IntKind.i64.max):=by simp[IntKind.max,IntKind.signed,IntKind.bits];omega
 have h48:=growslice_fits (old:=sCap) (by omega) hb2
 have h48':¬(Builtin.nextslicecap (sLen+new.length) sCap * ie.bytes > 2 ^ 48):=by simp;omega
 have hz0:(dx matches .int _)=false:=by cases dx<;>first|rfl|exact absurd rfl (hdx _)
 have ho:=hold w.drew rfl;simp only[Builtin.append_,List.getElem?_toArray,List.getElem?_cons_zero,List.getElem?_cons_succ,Sem.run_bind,run_underlying ht,Result.andThen_ok,hsizeOf,hzeros,Sem.run_pure,Bool.false_eq_true,if_false,hsrc.len,hroom,Bool.not_false,if_true,
  hinfo,h63',false_and,h48',run_choose,Question.forced,run_askRoom,World.drew_eq,ho,hfc,hzero,newRow,run_newObj_alloc,World.size_drew]
 rfl
end app
theorem zra {olds us:List Value}{z:Array Value}{k:Nat}(p:Nat)(hp:p<olds.length+us.length):(olds.toArray++us.toArray++Builtin.zeroCells z k)[p]? = (olds++us)[p]?:=by
 rw[Array.getElem?_append_left (by simp;omega)]
 simp
theorem zx7 (hE:EnvOK P E)(hw:WRel G c w H)(hnm:c.f nm=none){t tx ty e:TypeId}{kx:IntKind}{s y:AV}{v u:Value}(t2:P.underlying t=some (.slice e))(x2:P.underlying tx=some (.int kx))(hs:Rel c w s v)(hy:Rel c w y u){r:Eff ⊕ AV}
 (h:(zo4 E nm e s y).run H=some r):OutV G c w H nm r ((Builtin.append_ #[t,tx] ty #[v,u]).run P w):=by
 obtain⟨te,hte,h⟩:=zao h;obtain⟨ie,de,z,b1,b2,b3,b4,b5,b6,b7,b8,b9,b10,b11⟩:=(hE.ti e te hte).ok;cases hs with
 | nils =>
   cases hy with
   | int ky n =>
     cases ky<;>(try exact(zad h).elim)
     obtain⟨h0,h⟩:=za1 h;obtain⟨h1,h⟩:=za1 h;obtain⟨hk24,rfl⟩:=zci h;simp only[Bool.and_eq_true] at h0 h1;have hpos:0<te.size:=by simpa using h0.1
     have hn:0<n.toNat:=by simpa using h1.1
     have hb:=Nat.le_of_ble_eq_true h1.2;obtain⟨hb1,hb2⟩:=zwc hb;have hwn:IntKind.i64.wrap n=n:=by unfold IntKind.wrap IntKind.signed IntKind.bits;simp;omega
     have hzs:z.cells.size=te.size:=by have:=(b8 c w).1;rw[b9] at this;simpa using this.symm
     have hsizeOf:∀w,(sizeOf e).run P w = .ok te.size w:=fun w=>by simp[sizeOf,typeInfo,b1,b3]
     have hinfo:∀w,(typeInfo e).run P w = .ok ie w:=fun w=>by simp[typeInfo,b1]
     have hzero:∀w,(zeroValue e).run P w = .ok z w:=fun w=>by simp[zeroValue,typeInfo,b1,b7]
     have h63':¬(((0+n.toNat:Nat):Int) > IntKind.i64.max):=by simp[IntKind.max,IntKind.signed,IntKind.bits];omega
     have hb3:n.toNat * ie.bytes≤140737488355328:=by rw[b4];exact hb2
     have h48:=growslice_fits (old:=0) (need:=0+n.toNat) (by omega) (by simpa using hb3)
     have h48':¬(Builtin.nextslicecap (0+n.toNat) 0 * ie.bytes > 2 ^ 48):=by simp at h48 ⊢;omega
     have hneg:¬n<0:=by omega
     have hn0:¬n.toNat * te.size=0:=by have:=Nat.mul_pos hn hpos;omega
     have hbig:¬n * (ie.bytes:Int) > 2 ^ 48:=by
      have:((n.toNat * ie.bytes:Nat):Int)≤(140737488355328:Nat):=Int.ofNat_le.2 hb3;rw[Int.natCast_mul,Int.toNat_of_nonneg (by omega)] at this
      omega
     have hroom:¬(0+n.toNat≤0):=by omega
     have hfirst:∀w',(Builtin.firstCells te.size 0 (.slice none 0 0)).run P w' = .ok #[] w':=by intro w';simp[Builtin.firstCells]
     have hrun:(Builtin.append_ #[t,tx] ty #[.slice none 0 0,.int .i64 n]).run P w =
      .ok (.slice (some ⟨w.heap.size,0,none⟩) (0+n.toNat) (grownCap w (0+n.toNat) 0 e))
       (w.drew.alloc (.cells (#[]++Builtin.zeroCells z.cells n.toNat++Builtin.zeroCells z.cells (grownCap w (0+n.toNat) 0 e - (0+n.toNat))) e)):=by
      simp only[Builtin.append_,List.getElem?_toArray,List.getElem?_cons_zero,List.getElem?_cons_succ,Sem.run_bind,run_underlying t2,run_underlying x2,Result.andThen_ok,hsizeOf,Sem.run_pure,if_true,asInt,asIntOf,hwn,hneg,if_false,hinfo,hbig,hroom,
       Bool.not_true,Bool.false_eq_true,hn0,h63',false_and,h48',run_choose,Question.forced,run_askRoom,World.drew_eq,hfirst,hzero,newRow,run_newObj_alloc,World.size_drew]
      rfl
     rw[hrun];have hge:=grownCap_ge w (0+n.toNat) 0 e;have hrow:=zfc hw.drew hnm hk24 e (size:=te.size) (es:=List.replicate n.toNat te.zero) (arr:=#[]++Builtin.zeroCells z.cells n.toNat++Builtin.zeroCells z.cells (grownCap w (0+n.toNat) 0 e - (0+n.toNat)))
      (n := grownCap w (0 + n.toNat) 0 e * te.size) (by
       simp only[Array.size_append,List.size_toArray,List.length_nil,size_zeroCells,hzs,Nat.zero_add,← Nat.add_mul]
       apply Nat.mul_le_mul_right; omega) (Nat.mul_le_mul_right _ (by rw [List.length_replicate]; omega)) (fun i e he=>by
       rw[List.getElem?_replicate] at he;split at he<;>simp at he
       subst he; exact b9) (fun p x hp=>by
       obtain⟨v,hv,hr⟩:=(zkx (len:=n.toNat) (b8 c w) b9 hpos).get hp;have hz:((Array.range (n.toNat * te.size)).map (z.cells[· % z.cells.size]!))=Builtin.zeroCells z.cells n.toNat:=by simp[Builtin.zeroCells,hzs]
       rw[hz] at hv;have hv':(Builtin.zeroCells z.cells n.toNat)[p]? = some v:=by rw[← Array.getElem?_toList];exact hv
       have hpl:=(Array.getElem?_eq_some_iff.1 hv').1;refine⟨v,?_,hr.drew⟩;rw[Array.getElem?_append_left (by simpa using hpl),Array.empty_append]
       exact hv')
     refine⟨_,_,_,rfl,(Ext.refl_drew c w H).trans hrow.1,hrow.2,?_,Ctx.bind_other⟩;have:=zjr (c:=c) (nm:=nm) (w:=w.drew) (n:=grownCap w (0+n.toNat) 0 e * te.size) (size:=te.size) (len:=n.toNat) (cap:=grownCap w (0+n.toNat) 0 e) (by omega) (Nat.le_refl _)
      (w.drew.alloc (.cells (#[]++Builtin.zeroCells z.cells n.toNat++Builtin.zeroCells z.cells (grownCap w (0+n.toNat) 0 e - (0+n.toNat))) e))
     simpa using this
   | _=>exact(zad h).elim
 | _=>exact(zad h).elim
theorem yb9 (hE:EnvOK P E)(hw:WRel G c w H){t ty:TypeId}{x:AV}{v:Value}(hx:Rel c w x v){r:Eff ⊕ AV}(h:(yf7 E t x).run H=some r):OutV G c w H nm r ((Builtin.cap_ #[t] ty #[v]).run P w):=by
 obtain⟨ti,hti,h⟩:=zao h;obtain⟨_,d,_,_,d2,_,_,_,d6,_⟩:=(hE.ti t ti hti).ok;cases hdesc:ti.desc with
 | slice e =>
   rw[hdesc] at h d6;obtain rfl:d = .slice e:=d6;cases hx with
   | nils =>
     obtain rfl:=zan h;rw[show(Builtin.cap_ #[t] ty #[.slice none 0 0]).run P w = .ok (goInt 0) w by
      simp only[Builtin.cap_,List.getElem?_toArray,List.getElem?_cons_zero,Sem.run_bind,run_underlying d2,Result.andThen_ok,Sem.run_pure];rfl]
     exact zak hw (.int _ _)
   | _=>exact(zad h).elim
 | _=>rw[hdesc] at h;exact(zad h).elim
theorem znc {c:Ctx}{w:World}{z:Array Value}{zero:List AV}{size len:Nat}(hz:RelL c w zero z.toList)(hl:zero.length=size)(hpos:0<size):RelL c w (List.replicate len zero).flatten (Builtin.zeroCells z len).toList:=by
 have:=zkx (len:=len) hz hl hpos;have hzs:z.size=size:=by have:=hz.1;simp at this;omega
 have e:((Array.range (len * size)).map (z[· % z.size]!))=Builtin.zeroCells z len:=by simp[Builtin.zeroCells,hzs]
 rwa [e] at this
theorem zts (hE:EnvOK P E)(hw:WRel G c w H){t ty:TypeId}{x:AV}{v:Value}(hx:Rel c w x v){r:Eff ⊕ AV}(h:(zk3 E t x).run H=some r):OutV G c w H nm r ((Builtin.clear_ #[t] ty #[v]).run P w):=by
 obtain⟨ti,hti,h⟩:=zao h;obtain⟨_,d,_,_,d2,_,_,_,d6,_⟩:=(hE.ti t ti hti).ok;cases hdesc:ti.desc with
 | slice e =>
   rw[hdesc] at h d6;obtain rfl:d = .slice e:=d6;cases hx with
   | @slc _ _ k i len sz cap B a hf hsB hlen hcap =>
     obtain⟨te,hte,h⟩:=zao h;obtain⟨ie,de,z,b1,b2,b3,b4,b5,b6,b7,b8,b9,b10,b11⟩:=(hE.ti e te hte).ok;obtain⟨o,ho,h⟩:=zgn h;cases o with
     | sit _ _=>exact(zad h).elim
     | lp _ _ _ _ _=>exact(zad h).elim
     | mp _=>exact(zad h).elim
     | mit _ _=>exact(zad h).elim
     | arr sz' es =>
       obtain⟨h0,h⟩:=za1 h;obtain⟨h1,h⟩:=za1 h;obtain⟨hk24,rfl⟩:=zci h;simp only[Bool.and_eq_true,beq_iff_eq] at h0;obtain⟨⟨⟨q1,q2⟩,rfl⟩,rfl⟩:=h0;have hpos:0<te.size:=by simpa using q1
       have hle:=Nat.le_of_ble_eq_true h1;obtain⟨hB,hBn,hels⟩:=hw.sz ho hf;have hzero:∀w,(zeroValue e).run P w = .ok z w:=fun w=>by simp[zeroValue,typeInfo,b1,b7]
       have htup:∀{c w},Rel c w (.tup []) (.tuple #[]):=fun {c w}=>Rel.tup (vs:=[]) rfl (by simp)
       rcases Nat.eq_zero_or_pos len with h00|hpl
       · subst h00
         have hH:∀j,(Eff.upd H [(k,some (.arr te.size (es.take i++List.replicate 0 te.zero++es.drop (i+0))))]).get j=H.get j:=by
          intro j;simp only[Eff.upd,List.replicate_zero,List.append_nil,Nat.add_zero,List.take_append_drop];rw[Tr.get_set 24 k _ H j hk24]
          by_cases hj:j=k
          · subst hj;rw[if_pos rfl,ho]
          · rw[if_neg hj]
         rw[show(Builtin.clear_ #[t] ty #[.slice (some a) 0 cap]).run P w = .ok (.tuple #[]) w by
          simp only[Builtin.clear_,List.getElem?_toArray,List.getElem?_cons_zero,Sem.run_bind,run_underlying d2,Result.andThen_ok,Sem.run_pure]]
         exact⟨.tuple #[],w,c,rfl,(Ext.refl c w H).congr (fun _=>rfl) hH,hw.congr hH,htup,fun _ _=>rfl⟩
       · obtain ⟨rfl, hBcap⟩ := hcap (by omega)
         have hzl:=znc (len:=len) (b8 c w) b9 hpos;have hfl:(List.replicate len te.zero).flatten.length=len * te.size:=by
          rw[(zcd (sz:=te.size) (fun j el he=>by rw[List.getElem?_replicate] at he;split at he<;>simp at he;subst he;exact b9)).1];simp
         have hget0:∀(j:Nat) (q:Nat) (x:List AV),(List.replicate len te.zero)[j]? = some x→x=te.zero∧j<len:=by
          intro j _ x he;rw[List.getElem?_replicate] at he;split at he<;>simp at he
          rename_i hh;exact⟨he.symm,hh⟩
         have hes':(es.take i++List.replicate len te.zero++es.drop (i+len)).length=es.length:=by simp;omega
         have hat:∀j,(es.take i++List.replicate len te.zero++es.drop (i+len))[j]? = if j<i then es[j]? else if j<i+len then some te.zero else es[j]?:=by
          intro j;have e1:(es.take i).length=i:=by simp;omega
          by_cases g1:j<i
          · rw[if_pos g1,List.append_assoc,List.getElem?_append_left (by omega),List.getElem?_take,if_pos g1]
          · rw [if_neg g1]
            by_cases g2:j<i+len
            · rw[if_pos g2,List.append_assoc,List.getElem?_append_right (by omega),e1,List.getElem?_append_left (by simp;omega),List.getElem?_replicate,if_pos (by omega)]
            · rw [if_neg g2, List.getElem?_append_right (by simp; omega), List.getElem?_drop]
              congr 1;simp;omega
         obtain ⟨w', hrun, hext, hw'⟩ := hw.store (es' := es.take i ++ List.replicate len te.zero ++ es.drop (i + len)) ho hf hk24 (i * te.size) hzl (fun x hx=>by
          obtain⟨l,hl1,hl2⟩:=List.mem_flatten.1 hx;obtain⟨_,rfl⟩:=List.mem_replicate.1 hl1;exact List.all_eq_true.1 q2 x hl2) (by rw[hfl,← Nat.add_mul];exact Nat.le_trans (Nat.mul_le_mul_right _ hle) hBn) (by rw[hes'];exact hBn)
          (fun j el he=>by
            rw[hat j] at he;split at he
            · exact hels _ _ he
            · split at he
              · cases he;exact b9
              · exact hels _ _ he)
          (fun j q el x he hq=>by
            rw[hat j] at he;have hqs:∀el':List AV,el'.length=te.size→el'[q]? = some x→q<te.size:=fun el' h1 h2=>by have:=(List.getElem?_eq_some_iff.1 h2).1;omega
            split at he
            · rename_i g1
              have hqq:=hqs el (hels _ _ he) hq;have:(j+1) * te.size≤i * te.size:=Nat.mul_le_mul_right _ g1;rw[Nat.add_mul] at this;exact .inl ⟨by omega,el,he,hq⟩
            · split at he
              · rename_i g1 g2
                cases he;have hqq:=hqs te.zero b9 hq
                right;left
                have e1:j * te.size=i * te.size+(j - i) * te.size:=by rw[← Nat.add_mul];congr 1;omega
                have e2:(j - i+1) * te.size≤len * te.size:=Nat.mul_le_mul_right _ (by omega)
                rw[Nat.add_mul] at e2;refine⟨by omega,by rw[hfl];omega,?_⟩
                rw[show j * te.size+q - i * te.size=(j - i) * te.size+q by omega]
                rw[(zcd (sz:=te.size) (es:=List.replicate len te.zero) (fun j el he=>by rw[(hget0 j 0 el he).1];exact b9)).2 (j - i) q te.zero (by rw[List.getElem?_replicate,if_pos (by omega)]) hqq]
                exact hq
              · rename_i g1 g2
                right;right
                have:(i+len) * te.size≤j * te.size:=Nat.mul_le_mul_right _ (by omega)
                rw[Nat.add_mul] at this;exact⟨by rw[hfl];omega,el,he,hq⟩) P
         have hl0:len≠0:=by omega
         refine⟨.tuple #[],w',c,?_,hext,hw',htup,fun _ _=>rfl⟩
         obtain⟨len',rfl⟩:∃l,len=l+1:=⟨len - 1,by omega⟩
         simp only[Builtin.clear_,List.getElem?_toArray,List.getElem?_cons_zero,Sem.run_bind,run_underlying d2,Result.andThen_ok,hzero,hrun,Sem.run_pure]
   | _=>exact(zad h).elim
 | _=>rw[hdesc] at h;cases hx<;>exact(zad h).elim
theorem zr2 (hE:EnvOK P E)(hw:WRel G c w H)(hnm:c.f nm=none){t tx ty:TypeId}{s y:AV}{v u:Value}(hs:Rel c w s v)(hy:Rel c w y u){r:Eff ⊕ AV}(h:(zel E nm t tx s y).run H=some r) :
 OutV G c w H nm r ((Builtin.append_ #[t,tx] ty #[v,u]).run P w):=by
 obtain⟨ti,hti,h1⟩:=zao h;obtain⟨tix,htix,h2⟩:=zao h1;clear h h1;obtain⟨_,d,_,_,t2,_,_,_,t6,_⟩:=(hE.ti t ti hti).ok;obtain⟨_,dx,_,_,x2,_,_,_,x6,_⟩:=(hE.ti tx tix htix).ok;cases hdesc:ti.desc<;>rw[hdesc] at h2 t6<;>(try exact(zad h2).elim)
 rename_i e;obtain rfl:d = .slice e:=t6
 by_cases hint:∃k,tix.desc = .int k
 · obtain ⟨kx, hk⟩ := hint
   rw[hk] at h2 x6;obtain rfl:dx = .int kx:=x6;exact zx7 hE hw hnm t2 x2 hs hy h2
 have key:(zhd E nm e s y).run H=some r∧∀k,dx≠.int k:=by
  cases hdx:tix.desc<;>rw[hdx] at h2 x6<;>(try exact(hint ⟨_,hdx⟩).elim)<;>(try exact(zad h2).elim)
  · refine ⟨h2, ?_⟩
    obtain rfl:dx = .slice _:=x6;intro k e;cases e
  · refine ⟨h2, ?_⟩
    obtain rfl:dx = .string:=x6;intro k e;cases e
 obtain⟨h3,hdx⟩:=key;obtain⟨te,hte,h4⟩:=zao h3;clear h3;obtain⟨ie,de,z,b1,b2,b3,b4,b5,b6,b7,b8,b9,b10,b11⟩:=(hE.ti e te hte).ok;obtain⟨hpos,h5⟩:=za1 h4;clear h4;have hpos:0<te.size:=by simpa using hpos
 obtain⟨new,us,h6,hsrc⟩:=zoc (P:=P) hw hpos hy h5;clear h5;have hul:us.length=new.length * te.size:=by rw[← hsrc.rel.1,(zcd hsrc.sz).1]
 rcases znv h6 with⟨hb,h7⟩|⟨hb,h7⟩
 · -- nothing is appended
   have hn0:new.length=0:=Nat.eq_of_beq_eq_true hb;have hu0:us=[]:=List.eq_nil_of_length_eq_zero (by rw[hul,hn0];simp)
   have done:∀(base:Option Addr) (sLen sCap:Nat),sLen≤sCap→(Builtin.append_ #[t,tx] ty #[.slice base sLen sCap,u]).run P w = .ok (.slice base sLen sCap) w:=by
    intro base sLen sCap hle;rw[zm5 (P:=P) t2 x2 hdx b1 b3 hsrc ty base sLen sCap (by omega)]
    cases base<;>simp[hu0,hn0,storeCells]
   cases hs with
   | nils=>obtain rfl:=zan h7;rw[done none 0 0 (Nat.le_refl _)];exact zak hw .nils
   | emptn=>obtain rfl:=zan h7;rw[done none 0 0 (Nat.le_refl _)];exact zak hw .emptn
   | rnil sz=>obtain rfl:=zan h7;rw[done none 0 0 (Nat.le_refl _)];exact zak hw (.rnil sz)
   | empt a=>obtain rfl:=zan h7;rw[done (some a) 0 0 (Nat.le_refl _)];exact zak hw (.empt a)
   | slc hf hsB hlen hcap=>obtain rfl:=zan h7;rw[done _ _ _ hlen];exact zak hw (.slc hf hsB hlen hcap)
   | rsl vs hlen hi hl hc hr=>obtain rfl:=zan h7;rw[done _ _ _ hlen];exact zak hw (.rsl vs hlen hi hl hc hr)
   | _=>exact(zad h7).elim
 · have hn0:0<new.length:=by
    rcases Nat.eq_zero_or_pos new.length with h0|h0
    · rw[h0] at hb;cases hb
    · exact h0
   obtain⟨hone,h8⟩:=za1 h7;clear h7 h6;have hone':∀x∈new.flatten,x.one=true:=by
    intro x hx;obtain⟨el,he,hxe⟩:=List.mem_flatten.1 hx;have:=List.all_eq_true.1 hone el he;exact List.all_eq_true.1 this x hxe
   have fresh:∀(base:Option Addr),Nat.ble (new.length * (te.bytes+1)) 140737488355328=true→nm+1<2 ^ 24 →
    OutV G c w H nm (.inl ⟨.slc nm 0 new.length te.size,[(nm,some (.arr te.size new))]⟩) ((Builtin.append_ #[t,tx] ty #[.slice base 0 0,u]).run P w):=by
    intro base hbl hk24;have hbl:=Nat.le_of_ble_eq_true hbl;have hfirst:∀w',w'.heap=w.heap→(Builtin.firstCells te.size 0 (.slice base 0 0)).run P w' = .ok ([]:List Value).toArray w':=by
     intro w' _;cases base<;>simp[Builtin.firstCells,loadCells,loadCellsFrom]
    have hrun:=zm6 (P:=P) t2 x2 hdx b1 b3 b7 hsrc ty base 0 0 (by omega) hfirst (by rw[b4];simpa using hbl)
    rw[hrun];have hge:=grownCap_ge w (0+new.length) 0 e;have hzs:z.cells.size=te.size:=by have:=(b8 c w).1;rw[b9] at this;simpa using this.symm
    have hrow:=zfc (hw.drew) hnm hk24 e (size:=te.size) (es:=new) (arr:=([]:List Value).toArray++us.toArray++Builtin.zeroCells z.cells (grownCap w (0+new.length) 0 e - (0+new.length)))
     (n := grownCap w (0 + new.length) 0 e * te.size) (by
      simp only[Array.size_append,List.size_toArray,List.length_nil,size_zeroCells,hzs,hul,Nat.zero_add,← Nat.add_mul]
      apply Nat.mul_le_mul_right; omega) (Nat.mul_le_mul_right _ (by omega)) hsrc.sz (fun p x hp=>by
      obtain⟨v,hv,hr⟩:=hsrc.rel.get hp;refine⟨v,?_,hr.drew⟩;have hpl:=(List.getElem?_eq_some_iff.1 hv).1;rw[zra p (by simpa using hpl)]
      simpa using hv)
    refine⟨_,_,_,rfl,(Ext.refl_drew c w H).trans hrow.1,hrow.2,?_,Ctx.bind_other⟩;have:=zjr (c:=c) (nm:=nm) (w:=w.drew) (n:=grownCap w (0+new.length) 0 e * te.size) (size:=te.size) (len:=new.length) (cap:=grownCap w (0+new.length) 0 e) (by omega) (Nat.le_refl _)
     (w.drew.alloc (.cells (([]:List Value).toArray++us.toArray++Builtin.zeroCells z.cells (grownCap w (0+new.length) 0 e - (0+new.length))) e))
    simpa using this
   cases hs with
   | nils =>
     obtain⟨hbl,h9⟩:=za1 h8;obtain⟨hk24,rfl⟩:=zci h9;exact fresh none hbl hk24
   | emptn =>
     obtain⟨hbl,h9⟩:=za1 h8;obtain⟨hk24,rfl⟩:=zci h9;exact fresh none hbl hk24
   | empt a =>
     obtain⟨hbl,h9⟩:=za1 h8;obtain⟨hk24,rfl⟩:=zci h9;exact fresh (some a) hbl hk24
   | @slc _ _ k i len sz cap B a hf hsB hlen hcap =>
     obtain⟨o,ho,h9⟩:=zgn h8;cases o with
     | sit _ _=>exact(zad h9).elim
     | lp _ _ _ _ _=>exact(zad h9).elim
     | mp _=>exact(zad h9).elim
     | mit _ _=>exact(zad h9).elim
     | arr sz' es =>
       obtain⟨hq,h10⟩:=za1 h9;obtain rfl:=zan h10;clear h8 h9 h10;simp only[Bool.and_eq_true,beq_iff_eq] at hq;obtain⟨⟨⟨⟨⟨q1,q2⟩,q3⟩,q4⟩,q5⟩,q6⟩:=hq;have q3:=Nat.le_of_ble_eq_true q3;have q4:=Nat.le_of_ble_eq_true q4;have q5:=Nat.le_of_ble_eq_true q5;have q6:=Nat.le_of_ble_eq_true q6;subst q1;subst q2;obtain⟨hB,hBn,hels⟩:=hw.sz ho hf;have hk24:k+1<2 ^ 24:=by omega
       have hn24:nm+1<2 ^ 24:=by omega
       have hne:nm≠k:=by rintro rfl;rw[hf] at hnm;cases hnm
       have hlen':((es.drop i).take len).length=len:=by simp;omega
       have hupd:Eff.upd H [(k,none),(nm,some (.arr te.size ((es.drop i).take len++new)))]=(H.set 24 k none).set 24 nm (some (.arr te.size ((es.drop i).take len++new))):=rfl;have hcatl:∀(j:Nat) e,((es.drop i).take len++new)[j]? = some e→e.length=te.size:=by
        intro j el he
        by_cases hj:j<len
        · rw [List.getElem?_append_left (by omega)] at he
          exact hels _ el (zct i len j el he).1
        · rw [List.getElem?_append_right (by omega)] at he
          exact hsrc.sz _ el he
       by_cases hroom:len+new.length≤cap
       · -- in place
         obtain⟨rfl,hBcap⟩:=hcap (by omega)
         rw[zm5 (P:=P) t2 x2 hdx b1 b3 hsrc ty _ len cap hroom];dsimp only;rw[zcm];have hx1:i * te.size+(len * te.size+new.length * te.size)≤B.n:=by
          have:(i+(len+new.length)) * te.size≤(i+cap) * te.size:=Nat.mul_le_mul_right _ (by omega)
          rw[Nat.add_mul,Nat.add_mul] at this;omega
         have hfl:=(zcd hsrc.sz).1;have hcut:∀(j:Nat),j<i+len→(es.take (i+len))[j]? = es[j]?:=fun j hj=>by rw[List.getElem?_take,if_pos hj]
         have hes':(es.take (i+len)++new).length=i+len+new.length:=by simp;omega
         have htl:(es.take (i+len)).length=i+len:=by simp;omega
         obtain⟨w',hrun,hext,hw'⟩:=hw.store (es':=es.take (i+len)++new) ho hf hk24 ((i+len) * te.size) hsrc.rel hone' (by rw[hfl,← Nat.add_mul];rw[← Nat.add_mul,← Nat.add_mul] at hx1;rw[Nat.add_assoc];exact hx1)
          (by rw[hes',Nat.add_assoc,Nat.add_mul,Nat.add_mul];exact hx1)
          (fun j el he=>by
            by_cases hj:j<i+len
            · rw[List.getElem?_append_left (by omega),hcut j hj] at he;exact hels _ el he
            · rw[List.getElem?_append_right (by omega)] at he;exact hsrc.sz _ el he)
          (fun j q el x he hq=>by
            by_cases hj:j<i+len
            · rw [List.getElem?_append_left (by omega), hcut j hj] at he
              left
              have hqs:q<te.size:=by have:=(List.getElem?_eq_some_iff.1 hq).1;rw[hels _ el he] at this;exact this
              have:(j+1) * te.size≤(i+len) * te.size:=Nat.mul_le_mul_right _ hj;rw[Nat.add_mul] at this;exact⟨by omega,el,he,hq⟩
            · rw [List.getElem?_append_right (by omega), htl] at he
              right;left
              have hqs:q<te.size:=by have:=(List.getElem?_eq_some_iff.1 hq).1;rw[hsrc.sz _ el he] at this;exact this
              have hjn:j - (i+len)<new.length:=(List.getElem?_eq_some_iff.1 he).1;have e1:j * te.size=(i+len) * te.size+(j - (i+len)) * te.size:=by rw[← Nat.add_mul];congr 1;omega
              have e2:(j - (i+len)+1) * te.size≤new.length * te.size:=Nat.mul_le_mul_right _ hjn;rw[Nat.add_mul] at e2;refine⟨by omega,by rw[hfl];omega,?_⟩
              rw[show j * te.size+q - (i+len) * te.size=(j - (i+len)) * te.size+q by omega]
              rw[(zcd hsrc.sz).2 _ q el he hqs];exact hq) P
         have haddr:(⟨B.b,B.s+i * te.size+len * te.size,none⟩:Addr)=⟨B.b,B.s+(i+len) * te.size,none⟩:=by
          rw[Nat.add_mul,Nat.add_assoc]
         rw[haddr,hrun,Result.andThen_ok];have hren:=hw'.rename (k:=k) (k':=nm) hk24 hn24 hnm (by rw[Tr.get_set 24 k _ H k hk24,if_pos rfl]) hf i (cap * te.size) (by rw[← Nat.add_mul];exact hBcap)
          (es' := (es.drop i).take len ++ new) (by rw [List.length_append, hlen']; exact Nat.mul_le_mul_right _ hroom) (fun j el he=>by
           by_cases hj:j<len
           · rw [List.getElem?_append_left (by omega)] at he
             rw[List.getElem?_append_left (by omega),hcut _ (by omega)]
             exact(zct i len j el he).1
           · rw [List.getElem?_append_right (by omega), hlen'] at he
             rw[List.getElem?_append_right (by omega),htl,show i+j - (i+len)=j - len by omega]
             exact he)
         have hH:∀j,(((H.set 24 k (some (.arr te.size (es.take (i+len)++new)))).set 24 k none).set 24 nm (some (.arr te.size ((es.drop i).take len++new)))).get j =
          ((H.set 24 k none).set 24 nm (some (.arr te.size ((es.drop i).take len++new)))).get j:=by
          intro j;simp only[Tr.get_set 24 _ _ _ _ hk24,Tr.get_set 24 _ _ _ _ hn24]
          by_cases h1:j=nm<;>by_cases h2:j=k<;>simp[h1,h2]
         refine⟨_,w',c.bind nm ⟨B.b,B.s+i * te.size,cap * te.size,te.size⟩,rfl,?_,?_,?_,Ctx.bind_other⟩
         · rw[hupd];exact(hext.trans hren.1).congr (fun _=>rfl) (fun j=>(hH j).symm)
         · rw[hupd];exact hren.2.congr (fun j=>(hH j).symm)
         · refine Rel.slc (B:=⟨B.b,B.s+i * te.size,cap * te.size,te.size⟩) (by simp[Ctx.bind]) rfl hroom (fun _=>⟨by simp,by simp⟩)
       · -- a new row
         obtain⟨olds,ho1,ho2⟩:∃olds:List Value,(∀w',w'.heap=w.heap→(Builtin.firstCells te.size len (.slice (some a) len cap)).run P w' = .ok olds.toArray w')∧RelL c w ((es.drop i).take len).flatten olds:=by
          rcases Nat.eq_zero_or_pos len with h0|h0
          · subst h0
            exact⟨[],fun w' _=>by simp[Builtin.firstCells,loadCells,loadCellsFrom],by simpa using RelL.nil⟩
          · obtain ⟨new', us', hX, hsrc'⟩ := zoc (P := P) (f := fun es => .ret ⟨.rsl 0 es, []⟩) (r := .inl ⟨.rsl 0 ((es.drop i).take len), []⟩) hw hpos (Rel.slc (len := len) (cap := cap) (i := i) (a := a) hf hsB hlen hcap) (by
             have h1:(te.size == te.size && te.size == te.size && Nat.ble (i+len) es.length)=true:=by
              rw[Nat.ble_eq_true_of_le q3];simp
             simp only[zod,Rd.run,ho,zjv,h1])
            have hnew:new'=(es.drop i).take len:=by
             have:=zan hX
             injection this with this
             injection this with this
             injection this with _ this
             exact this.symm
            subst hnew;refine⟨us',fun w' hh=>?_,hsrc'.rel⟩
            have:=hsrc'.cells w' len hh (by omega)
            rwa [List.take_of_length_le (by rw[← hsrc'.rel.1,(zcd hsrc'.sz).1,hlen'];exact Nat.le_refl _)] at this
         have hrun:=zm6 (P:=P) t2 x2 hdx b1 b3 b7 hsrc ty (some a) len cap hroom ho1 (by rw[b4];exact q4)
         rw[hrun];have hge:=grownCap_ge w (len+new.length) cap e;have hzs:z.cells.size=te.size:=by have:=(b8 c w).1;rw[b9] at this;simpa using this.symm
         have hol:olds.length=len * te.size:=by
          have:=ho2.1;rw[(zcd (fun j el he=>hels _ el (zct i len j el he).1)).1,hlen'] at this
          exact this.symm
         have hdrop:=hw.drew.drop k hk24;have hrow:=zfc hdrop.2 hnm hn24 e (size:=te.size) (es:=(es.drop i).take len++new) (arr:=olds.toArray++us.toArray++Builtin.zeroCells z.cells (grownCap w (len+new.length) cap e - (len+new.length)))
          (n := grownCap w (len + new.length) cap e * te.size) (by
           simp only[Array.size_append,List.size_toArray,size_zeroCells,hzs,hul,hol,← Nat.add_mul]
           apply Nat.mul_le_mul_right; omega) (by rw [List.length_append, hlen']; exact Nat.mul_le_mul_right _ hge) hcatl (fun p x hp=>by
           rw[List.flatten_append] at hp;obtain⟨v,hv,hr⟩:=(ho2.append hsrc.rel).get hp;refine⟨v,?_,hr.drew⟩;have hpl:=(List.getElem?_eq_some_iff.1 hv).1;rw[zra p (by simpa using hpl)]
           exact hv)
         refine⟨_,_,c.bind nm ⟨w.heap.size,0,grownCap w (len+new.length) cap e * te.size,te.size⟩,rfl,?_,?_,?_,Ctx.bind_other⟩
         · rw[hupd];exact((Ext.refl_drew c w H).trans hdrop.1).trans hrow.1
         · rw[hupd];exact hrow.2
         · exact zjr (c:=c) (nm:=nm) (w:=w.drew) (n:=grownCap w (len+new.length) cap e * te.size) (size:=te.size) (len:=len+new.length) (cap:=grownCap w (len+new.length) cap e) hge (Nat.le_refl _) _
   | _=>exact(zad h8).elim
theorem zng {w:World}{r:Nat}{s:ByteArray}{p:Nat}(hr:w.heap[r]? = some (.stringIter s p))(o:Obj):(setObj r o).run P w = .ok () { w with heap:=w.heap.setIfInBounds r o }:=by
 simp[setObj,Sem.run,hr]
theorem zh1 {w:World}{r:Nat}{s:ByteArray}{p:Nat}(hr:w.heap[r]? = some (.stringIter s p)):(getObj r).run P w = .ok (.stringIter s p) w:=by
 simp[getObj,Sem.run,hr]
theorem zc7 {w:World}{r:Nat}{es:Array MapEntry}{k:Nat}(hr:w.heap[r]? = some (.map es k)):(getObj r).run P w = .ok (.map es k) w:=by
 simp[getObj,Sem.run,hr]
theorem zh0 {w:World}{r:Nat}{es:Array MapEntry}{k:Nat}(hr:w.heap[r]? = some (.map es k))(o:Obj):(setObj r o).run P w = .ok () { w with heap:=w.heap.setIfInBounds r o }:=by
 simp[setObj,Sem.run,hr]
theorem zs3 (hE:EnvOK P E)(hw:WRel G c w H)(hnm:c.f nm=none){t:TypeId}{x:AV}{v:Value}(hx:Rel c w x v){r:Eff ⊕ AV}(h:(zuk E nm t x).run H=some r):OutV G c w H nm r ((Instr.range t v).run P w):=by
 obtain⟨ti,hti,h⟩:=zao h;obtain⟨_,d,_,_,d2,_,_,_,d6,_⟩:=(hE.ti t ti hti).ok;cases hdesc:ti.desc with
 | string =>
   rw[hdesc] at h d6;obtain rfl:d = .string:=d6;cases hx with
   | str s =>
     obtain⟨hk24,rfl⟩:=zci h;obtain⟨h1,h2⟩:=hw.allocO (k:=nm) hnm hk24 (.stringIter ⟨s.toArray⟩ 0) (.sit s 0) (sz:=0) (n:=0) (fun c' w' hh _ _=>⟨hh,rfl,rfl⟩)
     refine⟨.pointer (some ⟨w.heap.size,0,none⟩),_,_,?_,h1,h2,?_,fun k hk=>by simp[Ctx.bind,hk]⟩
     · simp only[Instr.range,Sem.run_bind,run_underlying d2,Result.andThen_ok,Sem.run_pure,run_newObj_alloc]
     · have := Rel.ptr (c := c.bind nm ⟨w.heap.size, 0, 0, 0⟩) (w := w.alloc (.stringIter ⟨s.toArray⟩ 0)) (k := nm) (i := 0) (off := 0) (B := ⟨w.heap.size, 0, 0, 0⟩) (by simp [Ctx.bind])
       simpa using this
   | _=>exact(zad h).elim
 | map kt et =>
   rw[hdesc] at h d6;obtain rfl:d = .map kt et:=d6;cases hx with
   | @rmp _ _ es m clock mes f hi hm hb hs hf he hr =>
     obtain⟨hk24,rfl⟩:=zci h;obtain ⟨h1, h2⟩ := hw.allocO (k := nm) hnm hk24 (.mapIter (some m) clock #[] clock) (.mit none es) (sz := 0) (n := 0) (fun c' w' hh _ hc=>⟨⟨rfl,rfl⟩,m,mes,clock,#[],hh,(hc m hi).1,(hc m hi).2.trans hm,hb,hs,by
      rw[show(mes.toList.filter fun e=>!(#[]:Array Nat).contains e.born)=mes.toList from List.filter_eq_self.2 (by simp)]
      exact⟨f,hf,he,fun k x e=>(hr k x e).mono ⟨fun _ _ h=>(by cases h),fun b hb=>(hc b hb).1⟩ fun b hb=>(hc b hb).2⟩,fun k x hk=>by cases hk⟩)
     refine⟨.pointer (some ⟨w.heap.size,0,none⟩),_,_,?_,h1,h2,?_,fun k hk=>by simp[Ctx.bind,hk]⟩
     · simp only[Instr.range,Sem.run_bind,run_underlying d2,Result.andThen_ok,zc7 hm,Sem.run_pure,run_newObj_alloc]
     · have := Rel.ptr (c := c.bind nm ⟨w.heap.size, 0, 0, 0⟩) (w := w.alloc (.mapIter (some m) clock #[] clock)) (k := nm) (i := 0) (off := 0) (B := ⟨w.heap.size, 0, 0, 0⟩) (by simp [Ctx.bind])
       simpa using this
   | _=>exact(zad h).elim
 | _=>rw[hdesc] at h;cases hx<;>exact(zad h).elim
theorem zxe (hw:WRel G c w H){x:AV}{v:Value}(hx:Rel c w x v){str:Bool}{r:Eff ⊕ AV}(h:(zlw x str).run H=some r)(ty:TypeId):OutV G c w H nm r ((Instr.next v str ty).run P w):=by
 unfold zlw at h;split at h
 · rename_i k
   obtain⟨o,ho,h⟩:=zgn h;cases o with
   | arr _ _=>exact(zad h).elim
   | mp _=>exact(zad h).elim
   | mit _ _=>exact(zad h).elim
   | lp _ _ _ _ _=>exact(zad h).elim
   | sit s pos =>
     cases hx with
     | @ptr _ _ _ _ _ B hf =>
       obtain⟨B',hf',hi,h1,h2,h3⟩:=hw.obj k _ ho;rw[hf] at hf';cases hf';have hp:(⟨B.b,B.s+(0 * B.sz+0),none⟩:Addr)=⟨B.b,0,none⟩:=by rw[h2];simp
       rw[hp];have hsize:(⟨s.toArray⟩:ByteArray).size=s.length:=by simp[ByteArray.size]
       rcases znv h with⟨hb,h⟩|⟨hb,h⟩
       · obtain ⟨hk24, rfl⟩ := zci h
         have hlt:pos<(⟨s.toArray⟩:ByteArray).size:=by rw[hsize];simpa using hb
         obtain⟨e1,e2⟩:=hw.setO ho hf hk24 (.stringIter ⟨s.toArray⟩ (pos+decW s pos)) (.sit s (pos+decW s pos)) (fun w' hh _ _=>⟨hh,h2,h3⟩)
         refine⟨.tuple #[.bool true,goInt pos,.int .i32 (decC s pos)],_,_,?_,e1,e2,?_,fun _ _=>rfl⟩
         · simp only [Instr.next, Sem.run_bind, zh1 h1, Result.andThen_ok, hlt, if_true, Sem.run_pure]
           rw[show Utf8.decode ⟨s.toArray⟩ pos=(decA s pos) from rfl]
           simp only[Sem.run_bind,zng h1,Result.andThen_ok,Sem.run_pure];rfl
         · have := RelL.cons (c := c) (w := { w with heap := w.heap.setIfInBounds B.b (.stringIter ⟨s.toArray⟩ (pos + decW s pos)) }) (.bool true) (.cons (.int .i64 pos) (.cons (.int .i32 (decC s pos)) .nil))
           exact .tup this.1 this.2
       · obtain rfl := zan h
         have hlt:¬pos<(⟨s.toArray⟩:ByteArray).size:=by
          rw[hsize];intro hl;rw[show Nat.blt pos s.length=true by simpa using hl] at hb;cases hb
         rw[show(Instr.next (.pointer (some ⟨B.b,0,none⟩)) true ty).run P w = .ok (.tuple #[.bool false]) w by
          simp only[Instr.next,Sem.run_bind,zh1 h1,Result.andThen_ok,hlt,if_false,Sem.run_pure]]
         have:=RelL.cons (c:=c) (w:=w) (.bool false) .nil;exact zak hw (.tup this.1 this.2)
 · exact(zad h).elim
end
end Go.Ago
end
