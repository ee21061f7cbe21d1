/-
  Part A06: lemmas, each with its own conditions.
-/
import Derived.Laws.BytesString
import Derived.Laws.Runes
import Derived.Lib.ConvBytes
import Derived.Laws.AppendOwn
import Derived.Test.YthaolifcglpkdaaGreatDoorA05
set_option maxRecDepth 100000
set_option maxHeartbeats 0
set_option linter.all false
section
namespace Go.Ago
open List Nat
section
variable {P:Program} {E:Env} {G:eZ} {c:Ctx} {w:World} {H:ai} {nm:Nat}
theorem ZT (d:aN G c w H){a:UnOp}{x:AV}{v:Value}(f:Rel c w x v){r:bk ⊕ AV}(h:(KL a x).run H=some r):aW G c w H nm r ((Op.unary a v).run P w):=by
 cases f with
 | int k n =>
   cases a<;>(try exact(aE h).elim)
   . obtain rfl := bw h
     simp only[Op.unary,Op.intArith,Sem.run_pure,wr];exact aW.quiet d (.int _ _)
   . obtain rfl := bw h
     simp only[Op.unary];rw[toNat_and _ _ _ _ ag];exact aW.quiet d (.int _ _)
 | bool b =>
   cases a<;>(try exact(aE h).elim)
   obtain rfl:=bw h;simp only[Op.unary,Sem.run_pure];exact aW.quiet d (.bool _)
 | _=>cases a<;>exact(aE h).elim
theorem fold_push (b:List Int):∀a:Array UInt8,b.foldl (fun r n=>r.push (UInt8.ofNat n.toNat)) (⟨a⟩:ByteArray)=⟨a++(b.map fun n=>UInt8.ofNat n.toNat).toArray⟩:=by
 induction b<;>simp_all
theorem As:∀{es:List (List AV)} {l:List UInt8},pN es=some l->∃b:List Int,es=(b.map fun n=>[.int .u8 n])∧l=b.map fun n=>UInt8.ofNat n.toNat
 | [],l,h=>⟨[],rfl,by simp[pN] at h;simp[h]⟩
 | e :: es, l, h => by
   unfold pN at h;split at h
   . grind
   . rename_i n g f
     cases f;split at h
     . rename_i r d
       obtain⟨b,i,j⟩:=As d;exact⟨n::b,by grind,by grind⟩
     grind
   grind
theorem vU (Y:bW P E)(N:aN G c w H){s d:TypeId}{ts:TI}{ds:TypeDesc}{x:AV}{v:Value}(S:E.ti s=some ts)(K:P.underlying s=some ds)(U:P.underlying d=some .string)(p:Rel c w x v){r:bk ⊕ AV}(h:(qL E ts x).run H=some r) :
 aW G c w H nm r ((convert s d v).run P w):=by
 obtain⟨_,ds',_,_,A,_,_,_,s6,_⟩:=(Y.ti s ts S).ok;rw[K] at A;cases A;unfold qL at h;split at h
 . rename_i e M
   rw[M] at s6;obtain rfl:ds = .slice e:=s6;obtain⟨te,O,h⟩:=cL h;obtain⟨_,de,_,_,Q,_,_,_,e6,_⟩:=(Y.ti e te O).ok;split at h
   . rename_i hk
     rw[hk] at e6;obtain rfl:de = .int .u8:=e6;have V:∀(a:Addr) (b f:Nat) (m:List Int),m.length=b->(∀j v,(m.map (Value.int .u8))[j]? = some v->w.cell? (a.add j)=some v)->
      (convert s d (.slice (some a) b f)).run P w = .ok (.string ⟨(m.map fun n=>UInt8.ofNat n.toNat).toArray⟩) w:=by
      intro a b f m y z;have t:=run_loadCells_list (P:=P) w a (m.map (Value.int .u8)) z;rw[length_map,y] at t;simp only[convert,Sem.run_bind,run_underlying K,run_underlying U,run_underlying Q,Result.andThen_ok];rw[run_bytesToString w a b f m t];have:=fold_push m #[];rw[show(ByteArray.empty:ByteArray)=⟨#[]⟩ from rfl,this]
      simp
     have C:∀(g:List (List AV)) (a:Addr) (f:Nat) (M:(Rd.opt (kC g) lF).run H=some r) (z:∀(i:Nat) x,g[i]? = some [x]->∃v,w.cell? (a.add i)=some v∧Rel c w x v) (b:Nat) (y:g.length=b),
      aW G c w H nm r ((convert s d (.slice (some a) b f)).run P w):=by
      intro g a f M z b y;obtain⟨cs,t,J⟩:=nM M;unfold kC at t;split at t
      . rename_i l hb
        cases t;obtain rfl:=bw J;obtain⟨m,rfl,rfl⟩:=As hb;rw [V a b f m aY (fun j v L=>by
         simp only[getElem?_map,Option.map_eq_some_iff] at L;obtain⟨n,hn,rfl⟩:=L;obtain⟨v,hv,R⟩:=z j (.int .u8 n) aY;cases R;exact hv)]
        exact aW.quiet N (.str _)
      . cases t
     cases p with
     | ah =>
       obtain rfl:=bw h;rw[show(convert s d (.slice none 0 0)).run P w = .ok (.string ⟨(([]:List UInt8)).toArray⟩) w by
        simp only[convert,Sem.run_bind,run_underlying K,run_underlying U,run_underlying Q,Result.andThen_ok,Conv.bytesToString,Sem.run_pure];rfl]
       exact aW.quiet N (.str _)
     | @ak _ _ T g f a vs F hi y z R =>
       obtain⟨u,h⟩:=cy h;have u:T=1:=by simpa using u
       subst u;refine C g a f h (fun i x p=>?_) g.length rfl
       have W:i<g.length:=(List.getElem?_eq_some_iff.1 p).1;have:=z i 0 W aa;rw[Nat.mul_one,Nat.add_zero] at this;exact⟨_,this,(R i 0 [x] x p rfl).oL⟩
     | fk T =>
       obtain⟨u,h⟩:=cy h;obtain rfl:=bw (H:=H) (e:=⟨.str [],[]⟩) h;rw[show(convert s d (.slice none 0 0)).run P w = .ok (.string ⟨(([]:List UInt8)).toArray⟩) w by
        simp only[convert,Sem.run_bind,run_underlying K,run_underlying U,run_underlying Q,Result.andThen_ok,Conv.bytesToString,Sem.run_pure];rfl]
       exact aW.quiet N (.str _)
     | @az _ _ k i b T f B a hf hsB F I =>
       obtain⟨o,ho,h⟩:=lL h;cases o with
       | dG _ _=>exact(aE h).elim
       | lp _ _ _ _ _=>exact(aE h).elim
       | mp _=>exact(aE h).elim
       | cm _ _=>exact(aE h).elim
       | arr sz' g =>
         obtain⟨u,X⟩:=cy h;clear h;simp only[Bool.and_eq_true,beq_iff_eq] at u;obtain⟨⟨rfl,rfl⟩,J⟩:=u;have J:=le_of_ble_eq_true J;have y:((g.drop i).take b).length=b:=by simp;omega
         refine C _ a f X (fun j x p=>?_) b y
         have L:j<b:=by have:=(List.getElem?_eq_some_iff.1 p).1;omega
         obtain⟨rfl,_⟩:=I aa;rw[getElem?_take,if_pos L,getElem?_drop] at p;obtain⟨v,v1,_,v2⟩:=N.cell ho hf p (j:=0) rfl;refine⟨v,?_,v2⟩;rw[add_plain,<-v1]
         grind
     | _=>exact(aE h).elim
   . exact(aE h).elim
 . exact(aE h).elim
theorem RY (w:World)(b off n:Nat)(d:n≠0){arr:Array Value}{t:TypeId}(e:w.heap[b]? = some (.cells arr t (0,0))) :
 (w.freeze ⟨b,off,none⟩ n).heap[b]? = some (.cells arr t (off,off+n))∧(∀a,a≠b->(w.freeze ⟨b,off,none⟩ n).heap[a]? = w.heap[a]?)∧(w.freeze ⟨b,off,none⟩ n).heap.size=w.heap.size ∧
  (w.freeze ⟨b,off,none⟩ n).os=w.os∧(w.freeze ⟨b,off,none⟩ n).tape=w.tape∧(w.freeze ⟨b,off,none⟩ n).output=w.output:=by
 unfold World.freeze
 grind
theorem hand (A:aN G c w H){k i len cap:Nat}{es:List (List AV)}{B:fp}{a:Addr}(T:H.get k=some (.arr 1 es))(Q:c.f k=some B)(hl:0<len)(M:k+1<2 ^ 24)(_hsB:B.sz=1)(hlen:len≤cap)
 (N:0<cap->a=⟨B.b,B.s+i * 1,none⟩∧(i+cap) * 1≤B.n)(hle:i+len≤es.length){s e:TypeId}(s2:P.underlying s=some (.slice e))(e2:P.underlying e=some (.int .u8)){cs:List AV}
 (h1:kC ((es.drop i).take len)=some cs):aW G c w H nm (.inl ⟨.ak 1 ((es.drop i).take len),[(k,none)]⟩) ((convert s s (.slice (some a) len cap)).run P w):=by
 obtain⟨rfl,hB⟩:=N aa;obtain⟨F,z,X,J,t,L,hs,hsz0,hln,hc⟩:=A.obj k _ T;rw[Q] at z;cases z;have hbs:B.b<w.heap.size:=A.bX k B Q;obtain⟨f1,V,f3,f4,f5,f6⟩:=RY w B.b J.size 1 aa L;have R:(convert s s (.slice (some ⟨B.b,B.s+i * 1,none⟩) len cap)).run P w = .ok (.slice (some ⟨B.b,B.s+i * 1,none⟩) len cap) (w.freeze ⟨B.b,J.size,none⟩ 1):=by
  simp only[convert,Sem.run_bind,run_underlying s2,run_underlying e2,Result.andThen_ok,beq_self_eq_true,markStringish,run_shape,World.shape?,L,run_freeze,Sem.run_pure]
 rw[R];have O:∃C:List Int,(es.drop i).take len=C.map fun n=>[AV.int .u8 n]:=by
  unfold kC at h1;split at h1
  . rename_i l m
    obtain⟨C,h2,_⟩:=As m
    grind
  . cases h1
 obtain⟨C,K⟩:=O
 generalize hw':w.freeze ⟨B.b,J.size,none⟩ 1=U at f1 V f3 f4 f5 f6
 have u:((es.drop i).take len).length=len:=by simp;omega
 have r:c.le ⟨c.f,fun b=>c.au b∨b=B.b⟩:=⟨fun _ _ h=>h,fun _ h => .inl h⟩
 have D:∀b,c.au b->U.heap[b]? = w.heap[b]?:=fun b L=>V b (fun e=>X (e ▸ L))
 have y:∀{x:AV} {v:Value},Rel c w x v->Rel ⟨c.f,fun b=>c.au b∨b=B.b⟩ U x v:=fun hr=>hr.mono r D
 have d:∀j o,(H.set 24 k none).get j=some o->j≠k∧H.get j=some o:=by
  intro j o e;rw[Tr.eP 24 k _ H j M] at e
  by_cases Y:j=k
  . grind
  . grind
 refine⟨.slice (some ⟨B.b,B.s+i * 1,none⟩) len cap,U,⟨c.f,fun b=>c.au b∨b=B.b⟩,rfl,?_,?_,?_,fun _ _=>rfl⟩
 . refine ⟨r, f4, f5, f6, aa, fun b m Z => V b (fun e => Z ⟨k, _, B, T, Q, e.symm⟩), fun b m => m.imp id fun e => .inl ⟨k, _, B, T, Q, e.symm⟩, ?_⟩
   rintro b ⟨I,o,F,p,z,rfl⟩
   exact .inl ⟨I,o,F,(d I o p).2,z,rfl⟩
 . refine ⟨fun b m => by rw [f3]; exact m.elim (A.bH b) (fun e => aa), fun I F h => by rw [f3]; exact A.bX I F h, fun I o p => ?_, fun k1 k2 o o' B1 B2 e1 e2 => A.inj k1 k2 o o' B1 B2 (d k1 o e1).2 (d k2 o' e2).2, fun g cs e => y (A.bR g cs e)⟩
   obtain⟨cF,p⟩:=d I o p;obtain⟨F,g1,g2,g3⟩:=A.obj I o p;have S:F.b≠B.b:=fun e=>cF (A.inj I k o _ F B p T g1 Q e)
   exact⟨F,g1,fun h=>h.elim g2 S,g3.mono (V _ S) y (fun b L=>⟨r.au b L,D b L⟩)⟩
 . have hr:=Rel.ak (c:=⟨c.f,fun b=>c.au b∨b=B.b⟩) (w:=U) (sz:=1) (es:=(es.drop i).take len) (cap:=cap) (a:=⟨B.b,B.s+i * 1,none⟩) (fun j _ => .int .u8 (C.getD j 0)) aa (fun _ => .inr rfl)
    (fun j e W=>by grind)
    (fun j q Y hq=>by
      obtain rfl:q=0:=aa;rw[u] at Y;have hnl:j<C.length:=by have:=congrArg length K;rw[u,length_map] at this;omega
      have hx:es[i+j]? = some [AV.int .u8 (C.getD j 0)]:=by
       have h2:((es.drop i).take len)[j]? = some [AV.int .u8 (C.getD j 0)]:=by rw[K];simp[hnl]
       rwa [getElem?_take,if_pos Y,getElem?_drop] at h2
      obtain⟨v,v1,v2⟩:=(hc (i+j) _ hx).2 0 _ rfl;cases v2;rw[add_plain];simp only[World.cell?,f1]
      grind)
    (fun j q e x W hx=>by
      rw[K,getElem?_map] at W;cases h:C[j]? with
      | none=>grind
      | some n =>
        rw[h] at W;cases W;cases q with
        | zero =>
          cases hx;simp only[getD,h,Option.getD_some];exact .int _ _
        | succ q=>grind)
   grind
theorem Qt (K:bW P E)(q:aN G c w H){s d:TypeId}{x:AV}{v:Value}(N:Rel c w x v){r:bk ⊕ AV}(h:(sR E s d x).run H=some r):aW G c w H nm r ((convert s d v).run P w):=by
 obtain⟨ts,A,h⟩:=cL h;obtain⟨td,htd,h⟩:=cL h;obtain⟨_,ds,_,_,J,_⟩:=(K.ti s ts A).ok;obtain⟨_,dd,_,_,C,_,_,_,M,_⟩:=(K.ti d td htd).ok;cases m:td.desc with
 | int k =>
   rw[m] at h M;obtain rfl:dd = .int k:=M;cases N with
   | int k' n =>
     obtain rfl:=bw h;simp only[convert,Sem.run_bind,run_underlying J,run_underlying C,Result.andThen_ok,Conv.intToInt,Sem.run_pure,wr];exact aW.quiet q (.int _ _)
   | _=>exact(aE h).elim
 | string =>
   rw[m] at h M;obtain rfl:dd = .string:=M;cases N with
   | str l =>
     obtain rfl:=bw h;simp only[convert,Sem.run_bind,run_underlying J,run_underlying C,Result.andThen_ok,Sem.run_pure];exact aW.quiet q (.str _)
   | int k n =>
     obtain rfl:=bw h;rw[run_convert_int_string w s d k n aY C];exact aW.quiet q (by simpa using Rel.str (c:=c) (w:=w) (Utf8.encode n).data.toList)
   | ah=>exact vU K q A J C .ah h
   | ak vs u hi V hc hr=>exact vU K q A J C (.ak vs u hi V hc hr) h
   | fk sz=>exact vU K q A J C (.fk sz) h
   | az h1 h2 h3 h4 h5=>exact vU K q A J C (.az h1 h2 h3 h4 h5) h
   | _=>exact(aE h).elim
 | slice e =>
   rw[m] at h M;obtain rfl:dd = .slice e:=M;cases N with
   | str l =>
     obtain⟨S,L,h⟩:=cL h;obtain⟨_,de,_,_,e2,_,_,_,Q,_⟩:=(K.ti e S L).ok;have hde:de = .int .u8∧r = .inl ⟨.ak 1 (l.map fun b=>[.int .u8 b.toNat]),[]⟩:=by
      cases T:S.desc with
      | int k =>
        rw[T] at h Q;cases k<;>first|exact⟨Q,bw h⟩|exact(aE h).elim
      | _=>rw[T] at h;exact(aE h).elim
     obtain⟨rfl,rfl⟩:=hde;have F:∀b,b<w.heap.size->(Lib.bytesWorld w e ⟨l.toArray⟩).heap[b]? = w.heap[b]?:=fun b hb=>Lib.bytesWorld_at_old w e _ b hb
     have R:=Lib.bytesWorld_size w e ⟨l.toArray⟩;refine⟨_,_,⟨c.f,fun b=>c.au b∨b=w.heap.size⟩,Lib.run_convert_string_bytes w s d e ⟨l.toArray⟩ J C e2,?_⟩
     have I:c.le ⟨c.f,fun b=>c.au b∨b=w.heap.size⟩:=⟨fun _ _ h=>h,fun _ h => .inl h⟩
     have y:∀{x:AV} {v:Value},Rel c w x v->Rel ⟨c.f,fun b=>c.au b∨b=w.heap.size⟩ (Lib.bytesWorld w e ⟨l.toArray⟩) x v:=fun hr=>hr.mono I (fun b hb=>F b (q.bH b hb))
     refine⟨⟨I,rfl,rfl,rfl,aa,fun b hb _=>F b hb,fun b hb=>hb.imp id fun h => .inr aa,fun b hb => .inl hb⟩,
      ⟨fun b hb => by rw [R]; rcases hb with hb | rfl
                      . exact lt_succ_of_lt (q.bH b hb)
                      simp,fun k B h=>by rw[R];exact lt_succ_of_lt (q.bX k B h),fun k o e=>?_,q.inj,fun g cs e=>y (q.bR g cs e)⟩,?_,fun _ _=>rfl⟩
     . obtain ⟨B, g1, g2, g3⟩ := q.obj k o e
       have hB:=q.bX k B g1;exact⟨B,g1,fun h=>h.elim g2 (fun h=>aa),g3.mono (F _ hB) y (fun b hb=>⟨.inl hb,F b (q.bH b hb)⟩)⟩
     . have t : (⟨l.toArray⟩ : ByteArray).size ≤ grownCap w (⟨l.toArray⟩ : ByteArray).size 0 e := grownCap_ge _ _ _ _
       have V:(⟨l.toArray⟩:ByteArray).size=(l.map fun b=>([.int .u8 b.toNat]:List AV)).length:=by simp[ByteArray.size]
       rw[V] at t ⊢;refine .ak (fun i _ => .int .u8 (l.getD i 0).toNat) t (fun _ => .inr rfl) (fun i e he=>?_) (fun i j hi hj=>?_) (fun i j e x he N=>?_)
       . grind
       . have : j = 0 := aa
         subst this;simp only[length_map] at hi;have:=Lib.bytesWorld_cell w e ⟨l.toArray⟩ i aY;have ha:((⟨w.heap.size,0,none⟩:Addr).add (i * 1+0))=⟨w.heap.size,i,none⟩:=by
          by_cases h0:i=0<;>simp[Addr.add,h0]
         grind
       . rw [getElem?_map] at he
         cases h:l[i]? with
         | none=>grind
         | some b =>
           rw[h] at he;cases he;cases j with
           | zero =>
             cases N;simp only[getD,h,Option.getD_some];exact .int _ _
           | succ j=>grind
   | @az _ _ k i len sz cap B a hf hsB u t =>
     obtain⟨S,L,h⟩:=cL h;obtain⟨_,de,_,_,e2,_,_,_,Q,_⟩:=(K.ti e S L).ok;cases T:S.desc with
     | int k' =>
       rw[T] at h Q;obtain rfl:de = .int k':=Q;cases k'<;>first|exact(aE h).elim|skip
       obtain⟨hq,h⟩:=cy h;obtain⟨o,ho,h⟩:=lL h;cases o with
       | dG _ _=>exact(aE h).elim
       | lp _ _ _ _ _=>exact(aE h).elim
       | mp _=>exact(aE h).elim
       | cm _ _=>exact(aE h).elim
       | arr sz' es =>
         obtain⟨U,h⟩:=cy h;obtain⟨cs,h1,h⟩:=nM h;obtain rfl:=bw h;simp only[Bool.and_eq_true,beq_iff_eq] at hq U;obtain⟨⟨rfl,V⟩,O⟩:=hq;rw[C] at J;cases J;obtain⟨⟨rfl,rfl⟩,I⟩:=U;exact hand q ho hf (by simp_all) (by have:=le_of_ble_eq_true O;omega) hsB u t (le_of_ble_eq_true I) C e2 h1
     | _=>rw[T] at h;exact(aE h).elim
   | _=>exact(aE h).elim
 | _=>rw[m] at h;cases N<;>exact(aE h).elim
theorem Lu {d:TypeDesc}{t:TD}(h:ry P d t)(b:t≠.iface):∀a,d≠.interface a:=by
 intro a e;cases t<;>simp_all[ry]
theorem SN (l:bW P E)(o:aN G c w H){t:TypeId}{x:AV}{v:Value}(n:Rel c w x v){r:bk ⊕ AV}(h:(KE E t x).run H=some r):aW G c w H nm r ((Instr.makeInterface t v).run P w):=by
 obtain⟨i,j,h⟩:=cL h;obtain⟨d,s,m,g⟩:=jV (l.ti t i j);have f:i.desc≠.iface:=by intro e;rw[e] at h;exact(aE h).elim
 have p:=Lu g f;have q:=by
  cases a:i.desc<;>rw[a] at h<;>first|exact absurd a f|exact bw h
 subst q;have:(Instr.makeInterface t v).run P w = .ok (.iface t v) w:=by
  simp only[Instr.makeInterface,Sem.run_bind,s,Result.andThen_ok];rfl
 rw[this];exact aW.quiet o (.cG t n)
theorem Oc (J:bW P E)(q:aN G c w H){t s:TypeId}{x:AV}{v:Value}{g:Bool}(K:Rel c w x v){r:bk ⊕ AV}(h:(Kx E x t g).run H=some r) :
 aW G c w H nm r ((Instr.typeAssert v s t g).run P w):=by
 obtain⟨i,C,h⟩:=cL h;have I:=J.ti t i C;obtain⟨d,D,hd',A⟩:=jV I;have l:i.desc≠.iface:=by intro e;rw[e] at h;exact(aE h).elim
 have B:=Lu A l;obtain⟨z,hz,_,_,_,n⟩:=Dc I w;have j:∀{y u} (b:Bool),Rel c w y u->Rel c w (.ao [y,.bool b]) (.tuple #[u,.bool b]):=fun b p=>
  Rel.ao (vs:=[_,.bool b]) rfl (aQ.cons p (.cons (.bool b) .nil)).2
 cases K with
 | @cG _ _ m y u p =>
   have k : (match m == t,g with
    | true,true=>Rd.ret ⟨.ao [y,.bool true],[]⟩
    | true,false => .ret ⟨y,[]⟩
    | false,true => .ret ⟨.ao [match i.agg with|true => .agg i.zero|false=>i.zero.headD .any,.bool false],[]⟩
    | false,false => .fail).run H=some r:=by
    cases a:i.desc<;>rw[a] at h<;>first|exact absurd a l|exact h
   have hu:∀(g:Bool),(Instr.typeAssert (.iface m u) s t g).run P w=if m=t then .ok (if g then .tuple #[u,.bool true] else u) w else
    (if g then .ok (.tuple #[z,.bool false]) w else (Instr.typeAssert (.iface m u) s t g).run P w):=by
    intro g
    by_cases e:m=t
    . subst e
      simp only[Instr.typeAssert,Sem.run_bind,D,Result.andThen_ok];rfl
    . simp only [e, if_false]
      cases g with
      | false=>rfl
      | true =>
        simp only[Instr.typeAssert,Sem.run_bind,D,Result.andThen_ok]
        simp_all
   rw[hu]
   by_cases e:m=t
   . subst e
     simp only[beq_self_eq_true] at k;simp only[if_true];cases g<;>(dsimp only at k;obtain rfl:=bw k)
     . exact aW.quiet q p
     . exact aW.quiet q (j true p)
   . have : (m == t) = false := by simpa using e
     rw[this] at k;simp only[e,if_false];cases g<;>dsimp only at k
     . exact(aE k).elim
     . obtain rfl := bw k
       exact aW.quiet q (j false (n c w))
 | eH =>
   have k : (match g with
    | true=>Rd.ret ⟨.ao [match i.agg with|true => .agg i.zero|false=>i.zero.headD .any,.bool false],[]⟩
    | false => .fail).run H=some r:=by
    cases a:i.desc<;>rw[a] at h<;>first|exact absurd a l|exact h
   cases g with
   | false=>exact(aE k).elim
   | true =>
     obtain rfl:=bw k;have:(Instr.typeAssert .nilIface s t true).run P w = .ok (.tuple #[z,.bool false]) w:=by
      simp only[Instr.typeAssert,Sem.run_bind,D,Result.andThen_ok];cases d<;>first|exact absurd rfl (B _)|simp[hz]
     rw[this];exact aW.quiet q (j false (n c w))
 | _ =>
   exfalso
   cases a:i.desc<;>rw[a] at h<;>exact aE h
theorem Rl (e:aN G c w H){x:AV}{v:Value}{i:Nat}(b:Rel c w x v){r:bk ⊕ AV}(h:(yD x i).run H=some r):aW G c w H nm r ((Instr.extract v i).run P w):=by
 cases b with
 | @ao _ _ g m k j =>
   simp only[yD] at h;cases b:g[i]? with
   | none=>rw[b] at h;exact(aE h).elim
   | some y =>
     rw[b] at h;obtain rfl:=bw h;obtain⟨u,l,d⟩:=aQ.get ⟨k,j⟩ b;simp only[Instr.extract,getElem?_toArray,l,Sem.run_pure];exact aW.quiet e d
 | _=>exact(aE h).elim
theorem UC (hE:bW P E)(i:aN G c w H){t ty:TypeId}{x:AV}{v:Value}(k:Rel c w x v){r:bk ⊕ AV}(h:(KF E t x).run H=some r) :
 aW G c w H nm r ((Builtin.len_ #[t] ty #[v]).run P w):=by
 obtain⟨ti,j,h⟩:=cL h;obtain⟨d,g,hd',b⟩:=jV (hE.ti t ti j);cases a:ti.desc with
 | string =>
   rw[a] at h b;obtain rfl:d = .string:=b;cases k with
   | str l =>
     obtain rfl:=bw h;have hsz:(⟨l.toArray⟩:ByteArray).size=l.length:=by simp[ByteArray.size]
     simp only[Builtin.len_,Sem.run_bind,g,Result.andThen_ok,Sem.run_pure,goInt,getElem?_toArray,getElem?_cons_zero,hsz];exact aW.quiet i (.int _ _)
   | _=>exact(aE h).elim
 | array n e =>
   rw[a] at h b;obtain rfl:d = .array n e:=b;obtain rfl:=bw h;simp only[Builtin.len_,Sem.run_bind,g,Result.andThen_ok,Sem.run_pure,goInt,getElem?_toArray,getElem?_cons_zero];exact aW.quiet i (.int _ _)
 | slice e =>
   rw[a] at h b;obtain rfl:d = .slice e:=b;cases k<;>(try exact(aE h).elim)<;>
    (obtain rfl := bw h
     simp only[Builtin.len_,Sem.run_bind,g,Result.andThen_ok,Sem.run_pure,goInt,getElem?_toArray,getElem?_cons_zero];exact aW.quiet i (.int _ _))
 | _=>rw[a] at h;cases k<;>exact(aE h).elim
theorem GS (mx:Bool):∀(xs:List AV) (vs:List Value) (x:AV) (v:Value) (y:AV),aQ c w xs vs->Rel c w x v->qp mx x xs=some y->
 (∃k n,x = .int k n)->∃u,(vs.foldlM (if mx then Builtin.max2 else Builtin.min2) v).run P w = .ok u w∧Rel c w y u
 | [], vs, x, v, y, e, g, h, _ => by
   obtain rfl:=e.fY;simp only[qp,Option.some.injEq] at h
   simp_all
 | z :: xs, vs, x, v, y, e, g, h, ⟨k, n, f⟩ => by
   subst f;obtain⟨u,m,rfl,i,d⟩:=e.dT;cases g;cases i with
   | int p b =>
     simp only[qp] at h;have o:=GS mx xs m _ _ y d (.int _ _) h ⟨_,_,rfl⟩;obtain⟨u,q,j⟩:=o;refine⟨u,?_,j⟩;rw[foldlM_cons];cases mx
     . assumption
     assumption
   | _=>simp[qp] at h
theorem Iw (g:aN G c w H){mx:Bool}{ts:Array TypeId}{ty:TypeId}{xs:List AV}{vs:List Value}(j:aQ c w xs vs){r:bk ⊕ AV}(h:(yI mx xs).run H=some r) :
 aW G c w H nm r ((if mx then Builtin.max_ ts ty vs.toArray else Builtin.min_ ts ty vs.toArray).run P w):=by
 cases xs with
 | nil=>exact(aE h).elim
 | cons x xs =>
   obtain⟨v,b,rfl,i,a⟩:=j.dT;cases i<;>(try exact(aE h).elim)
   simp only[yI] at h;rename_i k n;cases d:qp mx (.int k n) xs with
   | none=>rw[d] at h;exact(aE h).elim
   | some y =>
     rw[d] at h;obtain rfl:=bw h;obtain⟨u,m,o⟩:=GS (P:=P) mx xs b _ _ y a (.int k n) d ⟨_,_,rfl⟩;have:(if mx then Builtin.max_ ts ty (Value.int k n::b).toArray else Builtin.min_ ts ty (Value.int k n::b).toArray).run P w = .ok u w:=by
      cases mx<;>simpa[Builtin.max_,Builtin.min_] using m
     rw[this];exact aW.quiet g o
end
end Go.Ago
end
