/-
  Part A08: lemmas, each with its own conditions.
-/
import Derived.Maps.RangeRun
import Derived.Test.YthaolifcglpkdaaGreatDoorA07
set_option maxRecDepth 100000
set_option maxHeartbeats 0
set_option linter.all false
section
namespace Go.Ago
open List Nat
theorem qH {a:Int}{x:AV}{l:List (Int×AV)}:cu ((a,x)::l)↔(∀k y,(k,y)∈l->a<k)∧cu l:=by
 unfold cu;simp
theorem GH:∀{es:List (Int×AV)} {k:Int} {x:AV},gk es k=some x->(k,x)∈es
 | [],_,_,h=>by cases h
 | (a, y) :: l, k, x, h => by
   simp[gk] at h
   by_cases e:a=k
   . grind
   rw[decide_eq_false e] at h;exact mem_cons_of_mem _ (GH h)
theorem Bg:∀{es:List (Int×AV)} {k:Int} {x:AV},cu es->(k,x)∈es->gk es k=some x
 | (a, y) :: l, k, x, c, h => by
   obtain⟨d,f⟩:=qH.1 c;simp[gk];rcases mem_cons.1 h with e|e
   . grind
   have:=d k x e;rw[decide_eq_false aa];exact Bg f e
theorem iY:∀{es:List (Int×AV)} {k:Int} {v:AV},cu es->∀(j:Int) (x:AV),(j,x)∈eo es k v↔(j=k∧x=v)∨((j,x)∈es∧j≠k)
 | [],k,v,_,j,x=>by simp[eo]
 | (a, y) :: l, k, v, d, j, x => by
   obtain⟨f,e⟩:=qH.1 d;simp only[eo]
   by_cases c:a<k
   . rw [decide_eq_true c]
     rw[mem_cons,iY e]
     grind
   grind
theorem nL:∀{es:List (Int×AV)} {k:Int} {v:AV},cu es->cu (eo es k v)
 | [],k,v,_=>by simp[eo,cu]
 | (a, y) :: l, k, v, f => by
   obtain⟨h,g⟩:=qH.1 f;simp only[eo]
   by_cases d:a<k
   . rw [decide_eq_true d]
     dsimp only;refine qH.2 ⟨fun j x e=>?_,nL g⟩
     rcases(iY g j x).1 e with⟨rfl,_⟩|⟨e,_⟩
     . omega
     grind
   . rw [decide_eq_false d]
     dsimp only
     by_cases b:a=k
     . rw [decide_eq_true b]
       dsimp only;subst b
       assumption
     . rw [decide_eq_false b]
       dsimp only;refine qH.2 ⟨fun j x e=>?_,f⟩
       grind
theorem GI {k:Int}:∀(es:List MapEntry) (i:Nat),(∀e∈es,∃j,e.key = .int .i64 j)->
 (Instr.findNow (.int .i64) (.int .i64 k) es i=some none∧∀e∈es,e.key≠.int .i64 k)∨∃j e,Instr.findNow (.int .i64) (.int .i64 k) es i=some (some (i+j,e.val))∧es[j]? = some e∧e.key = .int .i64 k
 | [],i,_ => .inl ⟨rfl,fun e d=>(by cases d)⟩
 | e :: es, i, h => by
   obtain⟨a,f⟩:=h e mem_cons_self;simp only[Instr.findNow,f,Instr.sameNow,if_true]
   by_cases n:k=a
   . subst n
     rw[show(k == k)=true by simp]
     exact .inr ⟨0,e,rfl,rfl,f⟩
   . rw [show (k == a) = false by grind]
     rcases GI es (i+1) (fun e d=>h e (mem_cons_of_mem _ d)) with⟨g,l⟩|⟨j,m,g,l,p⟩
     . refine .inl ⟨g, fun m o => ?_⟩
       grind
     . refine .inr ⟨j + 1, m, ?_, l, p⟩
       grind
section
variable {P:Program} {E:Env} {G:eZ} {c:Ctx} {w:World} {H:ai} {nm:Nat}
theorem u9 {d:TypeId}(h:P.underlying d=some (.int .i64))(b:Bool)(k:Int)(w:World):(Instr.checkKey b 10000 d (.int .i64 k)).run P w = .ok () w:=by
 rw[Instr.checkKey];simp[run_underlying h]
theorem Ki {b:TypeId}(h:P.underlying b=some (.int .i64)){es:List MapEntry}(d:∀e∈es,∃j,e.key = .int .i64 j)(k:Int)(w:World) :
 ((Instr.findKey b (.int .i64 k) es).run P w = .ok none w∧∀e∈es,e.key≠.int .i64 k)∨∃j e,(Instr.findKey b (.int .i64 k) es).run P w = .ok (some (j,e.val)) w∧es[j]? = some e∧e.key = .int .i64 k:=by
 unfold Instr.findKey;simp[run_underlying h];rcases GI (k:=k) _ 0 d with⟨f,g⟩|⟨j,e,f,g,i⟩
 . simp_all
 rw[f];exact .inr ⟨j,e,ag,g,i⟩
theorem iQ.keys {R:AV->Value->Prop}{es:List (Int×AV)}{a:List MapEntry}(h:iQ R es a):∀e∈a,∃j,e.key = .int .i64 j:=by
 obtain⟨f,d,b,_⟩:=h
 grind
theorem iQ.none_ {R:AV->Value->Prop}{es:List (Int×AV)}{a:List MapEntry}(h:iQ R es a){k:Int}(g:∀e∈a,e.key≠.int .i64 k):gk es k=none:=by
 obtain⟨f,b,_,_⟩:=h;cases d:gk _ k with
 | none=>rfl
 | some x =>
   obtain⟨j,i⟩:=b k x (GH d)
   grind
theorem iQ.some_ {R:AV->Value->Prop}{es:List (Int×AV)}{a:List MapEntry}(h:iQ R es a)(o:cu es){k:Int}{e:MapEntry}(p:e∈a)(i:e.key = .int .i64 k):∃x,gk es k=some x∧R x e.val:=by
 obtain⟨f,l,m,n⟩:=h;obtain⟨j,x,b,rfl⟩:=m e p;have:=(l j x b).2;rw[i] at *
 injection this with _ g
 subst g;exact⟨x,Bg o b,n _ x b⟩
theorem Kk {t:TypeId}{a:AV}{f:TI->Int->Rd}{x:bk ⊕ AV}(h:(D7 E t a f).run H=some x) :
 ∃b j g d e k,a = .int .i64 k∧E.ti t=some b∧b.desc = .map j g∧E.ti j=some d∧d.desc = .int .i64∧E.ti g=some e∧(f e k).run H=some x:=by
 obtain⟨b,r,h⟩:=cL h;cases l:b.desc with
 | map j g =>
   rw[l] at h;cases a with
   | int q k =>
     cases q<;>first|exact(aE h).elim|skip
     obtain⟨d,p,h⟩:=cL h;cases m:d.desc with
     | int q =>
       rw[m] at h;cases q<;>first|exact(aE h).elim|skip
       obtain⟨e,o,h⟩:=cL h
       grind
     | _=>rw[m] at h;exact(aE h).elim
   | _=>exact(aE h).elim
 | _=>rw[l] at h;exact(aE h).elim
theorem U9 {t:TypeId}(i:aN G c w H)(d:c.f nm=none){r:bk ⊕ AV}(h:(iJ (.cY nm) nm (.mp [])).run H=some r):aW G c w H nm r ((Instr.makeMap t none).run P w):=by
 obtain⟨a,rfl⟩:=jx h;obtain⟨j,m⟩:=i.vJ d a _ (.mp []) (n:=0) (fun o p l _ _=>⟨⟨rfl,rfl⟩,#[],0,l,⟨ag,ag⟩,by simp[cu],fun _=>default,(fun k x e=>by cases e),ag,(fun k x e=>by cases e)⟩)
 refine⟨.map (some w.heap.size),_,_,?_,j,m,?_,fun k g=>by simp[Ctx.bind,g]⟩
 . rfl
 exact Rel.cY (B:=⟨w.heap.size,0,0,0⟩) (by simp[Ctx.bind])
theorem UT {z:AV}{b:Value}(a:Bool)(d:Rel c w z b):Rel c w (nv z a none) (if a then .tuple #[b,.bool false] else b):=by
 cases a with
 | true=>exact Rel.ao rfl (aQ.cons d (.cons (.bool _) .nil)).2
 | false=>exact d
theorem UU {z x:AV}{v:Value}(a:Bool)(b:Rel c w x v):Rel c w (nv z a (some x)) (if a then .tuple #[v,.bool true] else v):=by
 cases a with
 | true=>exact Rel.ao rfl (aQ.cons b (.cons (.bool _) .nil)).2
 | false=>exact b
theorem U0 (K:bW P E)(Q:aN G c w H){t:TypeId}{x D:AV}{v V:Value}{y:Bool}(hx:Rel c w x v)(hk:Rel c w D V){r:bk ⊕ AV}(h:(KG E t x D y).run H=some r) :
 aW G c w H nm r ((Instr.lookup t v V y).run P w):=by
 obtain⟨ti,J,W,tk,N,k,rfl,h1,h2,Y,h4,h5,h⟩:=Kk h;obtain⟨d,M,Z,I⟩:=jV (K.ti t ti h1);rw[h2] at I;obtain rfl:d = .map J W:=I;obtain⟨dk,hdk,i,q⟩:=jV (K.ti J tk Y);rw[h4] at q;obtain rfl:dk = .int .i64:=q;obtain⟨z,O,_,_,_,C⟩:=Dc (K.ti W N h5) w;have C:Rel c w (vv N) z:=C c w;cases hk;have l:∀(b:Array MapEntry) (s:List (Int×AV)) (R:AV->Value->Prop),cu s->iQ R s b.toList->(∀x v,R x v->Rel c w x v)->
  ∀(p:Result Value),((Instr.findKey J (.int .i64 k) b.toList).run P w = .ok none w->p = .ok (if y then .tuple #[z,.bool false] else z) w)->(∀j v,(Instr.findKey J (.int .i64 k) b.toList).run P w = .ok (some (j,v)) w->p = .ok (if y then .tuple #[v,.bool true] else v) w)->
  aW G c w H nm (.inl ⟨nv (vv N) y (gk s k),[]⟩) p:=by
  intro b s R L n hR p r1 r2;rcases Ki i n.keys k w with⟨S,U⟩|⟨j,e,S,U,g3⟩
  . rw [r1 S, n.none_ U]
    exact aW.quiet Q (UT y C)
  . obtain ⟨x, e1, e2⟩ := n.some_ L (mem_of_getElem? U) g3
    rw[r2 _ _ S,e1];exact aW.quiet Q (UU y (hR _ _ e2))
 cases hx with
 | fO =>
   obtain rfl:=bw h;refine l #[] [] (fun _ _=>False) ir ⟨fun _=>default,(fun k x e=>by cases e),ag,(fun k x e=>by cases e)⟩ (fun _ _ h=>h.elim) _ (fun g=>?_) (fun j u g=>?_)
   all_goals simp[Instr.lookup,M,u9 i,g,O]
 | @cK _ _ s m A b f hi hm hb L T he hr =>
   obtain rfl:=bw h;refine l b s (Rel c.bare w) L ⟨f,T,he,hr⟩ (fun _ _ h=>h.oL) _ (fun g=>?_) (fun j u g=>?_)
   all_goals simp[Instr.lookup,M,u9 i,g,O,run_getObj_map hm]
 | @cY _ _ k' B T =>
   obtain⟨o,ho,h⟩:=lL h;cases o with
   | mp s =>
     obtain rfl:=bw h;obtain⟨B',F,hBi,_,b,A,a1,a2,a3,a4⟩:=Q.obj k' _ ho;rw[T] at F;cases F;refine l b s (Rel c w) a3 a4 (fun _ _ h=>h) _ (fun g=>?_) (fun j u g=>?_)
     all_goals simp[Instr.lookup,M,u9 i,g,O,run_getObj_map a1]
   | _=>exact(aE h).elim
 | _=>exact(aE h).elim
theorem QW {R:AV->Value->Prop}{es:List (Int×AV)}{arr:Array MapEntry}{g:Nat}{k:Int}{x:AV}{v:Value}(I:pA arr g)(F:cu es)(h:iQ R es arr.toList)(T:R x v){i:Nat}{e:MapEntry}(D:arr.toList[i]? = some e)(M:e.key = .int .i64 k) :
 pA (arr.modify i fun e=>{ e with key := .int .i64 k,val:=v }) g∧iQ R (eo es k x) (arr.modify i fun e=>{ e with key := .int .i64 k,val:=v }).toList:=by
 have l:∀p:Nat,(arr.modify i fun e=>{ e with key := .int .i64 k,val:=v }).toList[p]? = Functor.map (fun a=>if i=p then { a with key := .int .i64 k,val:=v } else a) arr.toList[p]?:=fun p=>by
  grind
 have z:(arr.modify i fun e=>{ e with key := .int .i64 k,val:=v }).toList.map (·.born)=arr.toList.map (·.born):=by
  refine ext_getElem? fun p=>?_
  rw[getElem?_map,getElem?_map,l];cases arr.toList[p]? with
  | none=>rfl
  | some a=>grind
 have o:∀a,a∈(arr.modify i fun e=>{ e with key := .int .i64 k,val:=v }).toList->∃(p:Nat) (b:MapEntry),arr.toList[p]? = some b∧a=if i=p then { b with key := .int .i64 k,val:=v } else b:=by
  intro a s;obtain⟨p,u⟩:=mem_iff_getElem?.1 s;rw[l] at u;cases n:arr.toList[p]? with
  | none=>grind
  | some b=>grind
 refine⟨⟨fun a s=>?_,by rw[z];exact I.nd⟩,?_⟩
 . obtain ⟨p, b, n, rfl⟩ := o a s
   have:=I.lt b (mem_of_getElem? n)
   grind
 . obtain ⟨f, L, K, U⟩ := h
   
   have t:∀(p q:Nat) (a b:MapEntry),arr.toList[p]? = some a->arr.toList[q]? = some b->a.born=b.born->p=q:=fun p q a b s n O=>by
    have u:p<(arr.toList.map (·.born)).length:=by rw[length_map];exact(List.getElem?_eq_some_iff.1 s).1
    refine(getElem?_inj u I.nd).1 ?_
    grind
   refine⟨fun j=>if j=k then { e with key := .int .i64 k,val:=v } else f j,fun j y r=>?_,fun a s=>?_,fun j y r=>?_⟩
   . dsimp only
     rcases(iY F j y).1 r with⟨rfl,rfl⟩|⟨r,d⟩
     . grind
     . rw [if_neg d]
       obtain⟨N,A⟩:=L j y r;refine⟨?_,A⟩;obtain⟨p,u⟩:=mem_iff_getElem?.1 N;refine mem_iff_getElem?.2 ⟨p,?_⟩;rw[l,u];have:i≠p:=by
        rintro rfl
        rw[D] at u;cases u;rw[M] at A
        injection A with _ A
        exact d A.symm
       grind
   . obtain ⟨p, b, n, rfl⟩ := o a s
     by_cases m:i=p
     . rw [if_pos m]
       subst m;rw[D] at n;cases n;exact⟨k,x,(iY F k x).2 (.inl ⟨rfl,rfl⟩),(if_pos rfl).symm⟩
     . rw [if_neg m]
       obtain⟨j,y,r,rfl⟩:=K b (mem_of_getElem? n);have d:j≠k:=by
        rintro rfl
        obtain⟨Q,S,J,B⟩:=K e (mem_of_getElem? D);have C:=(L Q S J).2;rw[<-B,M] at C
        injection C with _ C
        subst C;exact m (t i p _ _ D n (by rw[B]))
       exact⟨j,y,(iY F j y).2 (.inr ⟨r,d⟩),(if_neg d).symm⟩
   . dsimp only
     rcases(iY F j y).1 r with⟨rfl,rfl⟩|⟨r,d⟩
     . grind
     grind
theorem QU {R:AV->Value->Prop}{es:List (Int×AV)}{arr:Array MapEntry}{d:Nat}{k:Int}{x:AV}{v:Value}(o:pA arr d)(m:cu es)(h:iQ R es arr.toList)(u:R x v)(z:∀e∈arr.toList,e.key≠.int .i64 k) :
 pA (arr.push { key := .int .i64 k,val:=v,born:=d }) (d+1)∧iQ R (eo es k x) (arr.push { key := .int .i64 k,val:=v,born:=d }).toList:=by
 rw[show(arr.push { key := .int .i64 k,val:=v,born:=d }).toList=arr.toList++[{ key := .int .i64 k,val:=v,born:=d }] by simp]
 refine⟨⟨fun a g=>?_,?_⟩,?_⟩
 . rw [show (arr.push { key := .int .i64 k, val := v, born := d }).toList = arr.toList ++ [{ key := .int .i64 k, val := v, born := d }] by simp] at g
   rcases mem_append.1 g with g|g
   . have:=o.lt a g;omega
   grind
 . rw [show (arr.push { key := .int .i64 k, val := v, born := d }).toList = arr.toList ++ [{ key := .int .i64 k, val := v, born := d }] by simp, map_append, nodup_append]
   refine⟨o.nd,ag,fun a g b p=>?_⟩
   obtain⟨e,r,rfl⟩:=mem_map.1 g;simp only[map_cons,map_nil,mem_singleton] at p;subst p;have:=o.lt e r;omega
 . obtain ⟨f, s, q, t⟩ := h
   have l:∀j y,(j,y)∈es->j≠k:=fun j y i e=>by
    grind
   refine⟨fun j=>if j=k then { key := .int .i64 k,val:=v,born:=d } else f j,fun j y i=>?_,fun a g=>?_,fun j y i=>?_⟩
   . dsimp only
     rcases(iY m j y).1 i with⟨rfl,rfl⟩|⟨i,n⟩
     . simp
     grind
   . rcases mem_append.1 g with g | g
     . obtain ⟨j, y, i, rfl⟩ := q a g
       exact⟨j,y,(iY m j y).2 (.inr ⟨i,l j y i⟩),(if_neg (l j y i)).symm⟩
     . rw [mem_singleton.1 g]
       exact⟨k,x,(iY m k x).2 (.inl ⟨rfl,rfl⟩),(if_pos rfl).symm⟩
   . dsimp only
     rcases(iY m j y).1 i with⟨rfl,rfl⟩|⟨i,n⟩
     . grind
     grind
theorem Va (R:bW P E)(K:aN G c w H){t:TypeId}{m y x:AV}{U V v:Value}(hm:Rel c w m U)(hk:Rel c w y V)(T:Rel c w x v){r:bk ⊕ AV}(h:(KH E t m y x).run H=some r) :
 ∃l w',r = .inl l∧(Instr.mapUpdate t U V v).run P w = .ok () w'∧Ext c w H c w' (bk.dH H l.up)∧aN G c w' (bk.dH H l.up)∧l.val = .any:=by
 obtain⟨ti,S,et,tk,te,k,rfl,h1,h2,h3,h4,h5,h⟩:=Kk h;obtain⟨d,hd,hd',u⟩:=jV (R.ti t ti h1);rw[h2] at u;obtain rfl:d = .map S et:=u;obtain⟨dk,hdk,f,n⟩:=jV (R.ti S tk h3);rw[h4] at n;obtain rfl:dk = .int .i64:=n;cases hk;cases hm with
 | @cY _ _ k' B D =>
   obtain⟨o,Q,h⟩:=lL h;cases o with
   | mp W =>
     obtain⟨p,rfl⟩:=jx h;obtain⟨B',s,hBi,Y,i,b,A,X,z,I⟩:=K.obj k' _ Q;rw[D] at s;cases s;rcases Ki f I.keys k w with⟨J,C⟩|⟨j,e,J,C,Z⟩
     . obtain ⟨L, F⟩ := QU X z I T C
       obtain⟨N,M⟩:=K.bP Q D p (.map (i.push { key := .int .i64 k,val:=v,born:=b }) (b+1)) (.mp (eo W k x)) (fun w' O g _=>⟨Y,_,_,O,L,nL z,F.mono fun _ _ h=>g h⟩)
       refine⟨_,_,rfl,?_,N,M,rfl⟩;simp only[Instr.mapUpdate,Sem.run_bind,hd,Result.andThen_ok,run_getObj_map A,u9 f,J,run_setObj_map A]
     . obtain ⟨L, F⟩ := QW X z I T C Z
       obtain⟨N,M⟩:=K.bP Q D p (.map (i.modify j fun e=>{ e with key := .int .i64 k,val:=v }) b) (.mp (eo W k x)) (fun w' O g _=>⟨Y,_,_,O,L,nL z,F.mono fun _ _ h=>g h⟩)
       refine⟨_,_,rfl,?_,N,M,rfl⟩;have hg:i[j]? = some e:=by rw[<-Array.getElem?_toList];exact C
       have q:(Instr.keyThatStays (((i[j]?).map (·.key)).getD (.int .i64 k)) (.int .i64 k)).run P w = .ok (.int .i64 k) w:=by
        rw[hg];simp only[Option.map_some,Option.getD_some,Z];unfold Instr.keyThatStays;rw[if_pos (by rw[Instr.sameBits];simp)]
        simp only[Sem.run_pure]
       simp only[Instr.mapUpdate,Sem.run_bind,hd,Result.andThen_ok,run_getObj_map A,u9 f,J,q,run_setObj_map A]
   | _=>exact(aE h).elim
 | _=>exact(aE h).elim
theorem QZ (n:aN G c w H){x:AV}{v:Value}(I:Rel c w x v){r:bk ⊕ AV}(h:(Df x).run H=some r):aW G c w H nm r ((Instr.entry v).run P w):=by
 unfold Df at h;split at h
 . rename_i k
   obtain⟨o,z,h⟩:=lL h;cases o with
   | cm i S =>
     cases i with
     | none=>exact(aE h).elim
     | some p =>
       obtain⟨j,y⟩:=p;obtain rfl:=bw h;cases I with
       | @ptr _ _ _ _ _ B t =>
         obtain⟨U,f,V,⟨O,R⟩,D,l,a,seen,J,T,u,C,W,Q,A⟩:=n.obj k _ z;rw[t] at f;cases f;obtain⟨d,e,rfl,L,K,M⟩:=A j y rfl;have N:(⟨B.b,B.s+(0 * B.sz+0),none⟩:Addr)=⟨B.b,0,none⟩:=by grind
         rw[N,run_entry_at w B.b D a d l a e J u L C.nd,K];have:=aQ.cons (.int .i64 j) (.cons M.oL .nil);exact aW.quiet n (.ao this.1 this.2)
   | _=>exact(aE h).elim
 . exact(aE h).elim
end
end Go.Ago
end
section
namespace Go.Ago
open List Nat
section
variable {P:Program} {E:Env} {G:eZ} {c:Ctx} {w:World} {H:ai} {nm:Nat}
def zQ (G:eZ)(c:Ctx)(w:World)(H:ai)(nm:Nat):bk ⊕ AV->Result Next->Prop
 | .inl a,b=>∃g e d,b = .ok g e∧Ext c w H d e (bk.dH H a.up)∧aN G d e (bk.dH H a.up)∧(∀k,k≠nm->d.f k=c.f k) ∧
  ((∃v,g = .value v∧Rel d e a.val v)∨(g = .skip∧a.val = .any))
 | .inr x,b=>∃v,b = .halt (.panic v) w∧Rel c w x v
theorem aW.next {r:bk ⊕ AV}{s:Sem Value}(h:aW G c w H nm r (s.run P w)):zQ G c w H nm r ((do pure (Next.value (<-s)):Sem Next).run P w):=by
 cases r with
 | inl d =>
   obtain⟨v,e,f,g,a,j,k,l⟩:=h;exact⟨.value v,e,f,by simp_all,a,j,l,.inl ⟨v,rfl,k⟩⟩
 | inr x =>
   obtain⟨v,g,a⟩:=h;exact⟨v,by simp_all,a⟩
theorem aW.of_next {r:bk ⊕ AV}{a:Result Next}{x:AV}{v:Value}(d:aN G c w H)(e:Rel c w x v)(h:r = .inl ⟨x,[]⟩)(b:a = .ok (.value v) w):zQ G c w H nm r a:=by
 subst h;subst b;exact⟨_,w,c,rfl,Ext.refl c w H,d,fun _ _=>rfl,.inl ⟨v,rfl,e⟩⟩
theorem Ar {ρ:Operand->AV}{b:Operand->Value}(a:∀x,Rel c w (ρ x) (b x))(o:Option Operand):ks c w (o.map ρ) (o.map b):=by
 cases o with
 | none=>trivial
 | some x=>exact a x
theorem oU {ρ:Operand->AV}{a:Operand->Value}(b:∀x,Rel c w (ρ x) (a x))(l:List Operand):aQ c w (l.map ρ) (l.map a):=
 ⟨ag,fun i x v e d=>by
  grind⟩
theorem Jk {ρ:Operand->AV}{a:Operand->Value}(b:∀x,Rel c w (ρ x) (a x))(l:List (Nat×Operand)) :
 ∀(i:Nat) (p:Nat×AV) (q:Nat×Value),(l.map fun (i,x)=>(i,ρ x))[i]? = some p->(l.map fun (i,x)=>(i,a x))[i]? = some q->p.1=q.1∧Rel c w p.2 q.2:=by
 grind
theorem Dg (C:bW P E)(p:aN G c w H)(Q:c.f nm=none){ρ:Operand->AV}{N:Operand->Value}(g:∀x,Rel c w (ρ x) (N x))(o:Oper){r:bk ⊕ AV}(h:(cc E nm ρ o.op).run H=some r) :
 zQ G c w H nm r ((execOp N o).run P w):=by
 obtain⟨dst,op,I,pos,after,guard⟩:=o;cases op<;>(try exact(aE h).elim)
 case move x=>exact aW.of_next p (g x) (bw h) rfl
 case assign x=>exact aW.of_next p (g x) (bw h) rfl
 case pick a b d=>
  have ha:=g a;simp only[cc,KI] at h;cases hb:ρ a<;>rw[hb] at h ha<;>(try exact(aE h).elim)
  rename_i t
  generalize K:N a=sv at ha
  cases ha;rcases sP h with⟨rfl,h⟩|⟨rfl,h⟩
  . exact aW.of_next p (g b) (bw (H:=H) h) (by simp[execOp,K,asBool])
  . exact aW.of_next p (g d) (bw (H:=H) h) (by simp[execOp,K,asBool])
 case alloc t=>exact(NQ C p Q h).next
 case box t x=>exact(OQ C p Q (g x) h).next
 case build t Z=>
  have:=OS (nm:=nm) C p ag (Jk g Z.toList) h;have e:(List.map (fun (x:Nat×Operand)=>(x.1,N x.2)) Z.toList).toArray=Z.map (fun x=>(x.1,N x.2)):=Array.ext' ag
  rw[e] at this;exact this.next
 case buildSlice t n Z=>
  have:=OR (nm:=nm) C p Q ag (Jk g Z.toList) h;have e:(List.map (fun (x:Nat×Operand)=>(x.1,N x.2)) Z.toList).toArray=Z.map (fun x=>(x.1,N x.2)):=Array.ext' ag
  rw[e] at this;exact this.next
 case load t a=>exact(UX C p (g a) h).next
 case store t a x=>
  obtain⟨eff,w',c',rfl,X,M,h3,h4,h5⟩:=Zh C p (g a) (g x) h;exact⟨.skip,w',c',by simp[execOp,X],M,h3,fun k _=>h5 k,.inr ⟨rfl,h4⟩⟩
 case nilCheck x=>
  have hx:=g x;simp only[cc] at h
  generalize ρ x=a at h hx
  generalize K:N x=v at hx
  cases hx with
  | ptr hf=>exact aW.of_next p (.ptr hf) (bw h) (by simp[execOp,K])
  | bq hi hl hc hr=>exact aW.of_next p (.bq hi hl hc hr) (bw h) (by simp[execOp,K])
  | fn f X M J hr2 =>
    cases f<;>(try exact(aE h).elim)
    exact aW.of_next p (.fn _ X M J hr2) (bw h) (by simp[execOp,K])
  | cG t hy=>exact aW.of_next p (.cG t hy) (bw h) (by simp[execOp,K])
  | _=>exact(aE h).elim
 case binOp op t x y t2=>exact(Ou C p (g x) (g y) h).next
 case unOp op t x=>exact(ZT p (g x) h).next
 case convert s d x=>exact(Qt C p (g x) h).next
 case makeInterface t x=>exact(SN C p (g x) h).next
 case makeFunc f xs ys=>
  refine aW.of_next (v := .func f (xs.map N) (ys.map N)) p ?_ (bw h) aB;have X:=oU g xs.toList;have M:=oU g ys.toList;have:=Rel.fn f X.1 M.1 X.2 M.2;have e:∀l:Array Operand,(l.toList.map N).toArray=l.map N:=fun l=>Array.ext' ag
  grind
 case makeSlice t l k=>exact(U_ C p Q (g l) (g k) h).next
 case slice t x lo hi mx=>exact(Yy C p (g x) (Ar g lo) (Ar g hi) (Ar g mx) h).next
 case fieldAddr t x f=>exact(Rr C p (g x) h).next
 case field t x f=>exact(Rs C p (g x) h).next
 case indexAddr t x i=>exact(Tc C p (g x) (g i) h).next
 case index t x i=>exact(Td C p (g x) (g i) h).next
 case typeAssert x st t ok=>exact(Oc C p (g x) h).next
 case extract x i=>exact(Rl p (g x) h).next
 case range t x=>exact(Xd C p Q (g x) h).next
 case makeMap t res=>
  cases res with
  | some x=>exact(aE h).elim
  | none=>exact(U9 p Q h).next
 case lookup t x i ok=>exact(U0 C p (g x) (g i) h).next
 case mapUpdate t m k v=>
  obtain⟨eff,w',rfl,X,M,h3,h4⟩:=Va C p (g m) (g k) (g v) h;exact⟨.skip,w',c,by simp[execOp,X],M,h3,fun _ _=>rfl,.inr ⟨rfl,h4⟩⟩
 case entry x=>exact(QZ p (g x) h).next
 case next x str=>exact(VK p (g x) h _).next
 case panic x=>
  have hx:=g x;simp only[cc] at h
  generalize ρ x=a at h hx
  generalize K:N x=v at hx
  cases hx with
  | @cG _ _ t y u hy =>
    have:r = .inr (.cG t y):=by simp[Rd.run] at h;exact h.symm
    subst this;exact⟨.iface t u,by simp[execOp,K,Instr.panic,Result.andThen],.cG t hy⟩
  | _=>exact(aE h).elim
 case call cl=>
  obtain⟨T,L,S⟩:=cl;cases T<;>(try exact(aE h).elim)
  rename_i b;have z:=oU g L.toList;have F:L.map N=(L.toList.map N).toArray:=Array.ext' ag;simp only[cc,yB] at h
  generalize hA:L.toList.map ρ=A at h z
  generalize hV:L.toList.map N=V at z F
  cases b<;>(try exact(aE h).elim)
  case append=>
   match O:S.toList,A,h,z with
   | [t, tx], [s, x], M, j =>
     obtain⟨v1,V1,rfl,J,q⟩:=j.dT;obtain⟨v2,V2,rfl,hr2,U⟩:=q.dT;obtain rfl:=U.fY;have D:S=#[t,tx]:=by apply Array.ext';simpa using O
     subst D;have:=NZ (ty:=I) C p Q J hr2 M;simp only[execOp,resolve,invoke,builtin,Sem.run_bind,Sem.run_pure,Result.andThen_ok,F]
     simpa using this.next (P:=P)
  case len=>
   match O:S.toList,A,h,z with
   | [t], [x], M, j =>
     obtain⟨v1,V1,rfl,J,q⟩:=j.dT;obtain rfl:=q.fY;have D:S=#[t]:=by apply Array.ext';simpa using O
     subst D;have:=UC (nm:=nm) (ty:=I) C p J M;simp only[execOp,resolve,invoke,builtin,Sem.run_bind,Sem.run_pure,Result.andThen_ok,F]
     simpa using this.next (P:=P)
  case cap=>
   match O:S.toList,A,h,z with
   | [t], [x], M, j =>
     obtain⟨v1,V1,rfl,J,q⟩:=j.dT;obtain rfl:=q.fY;have D:S=#[t]:=by apply Array.ext';simpa using O
     subst D;have:=Pp (nm:=nm) (ty:=I) C p J M;simp only[execOp,resolve,invoke,builtin,Sem.run_bind,Sem.run_pure,Result.andThen_ok,F]
     simpa using this.next (P:=P)
  case clear=>
   match O:S.toList,A,h,z with
   | [t], [x], M, j =>
     obtain⟨v1,V1,rfl,J,q⟩:=j.dT;obtain rfl:=q.fY;have D:S=#[t]:=by apply Array.ext';simpa using O
     subst D;have:=P2 (nm:=nm) (ty:=I) C p J M;simp only[execOp,resolve,invoke,builtin,Sem.run_bind,Sem.run_pure,Result.andThen_ok,F]
     simpa using this.next (P:=P)
  case max=>
   have:=Iw (P:=P) (nm:=nm) (ts:=S) (ty:=I) (mx:=true) p z h;simp only[execOp,resolve,invoke,builtin,Sem.run_bind,Sem.run_pure,Result.andThen_ok,F]
   simpa using this.next (P:=P)
  case min=>
   have:=Iw (P:=P) (nm:=nm) (ts:=S) (ty:=I) (mx:=false) p z h;simp only[execOp,resolve,invoke,builtin,Sem.run_bind,Sem.run_pure,Result.andThen_ok,F]
   simpa using this.next (P:=P)
end
end Go.Ago
end
