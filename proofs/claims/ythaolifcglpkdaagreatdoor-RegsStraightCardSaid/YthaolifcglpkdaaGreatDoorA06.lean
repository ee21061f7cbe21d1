/-
  Part 6: lemmas, each with its own conditions.
-/
import Derived.Maps.RangeRun
import Derived.Test.YthaolifcglpkdaaGreatDoorA05
set_option maxRecDepth 100000
set_option maxHeartbeats 0
set_option linter.all false
section
namespace Go.Ago
theorem ris_cons {a:Int}{x:AV}{l:List (Int×AV)}:RisK ((a,x)::l)↔(∀k y,(k,y)∈l→a<k)∧RisK l:=by
 unfold RisK;rw[List.map_cons,List.pairwise_cons];refine and_congr_left fun _=>⟨fun h k y e=>h k (List.mem_map.2 ⟨(k,y),e,rfl⟩),fun h k e=>?_⟩
 obtain⟨p,hp,rfl⟩:=List.mem_map.1 e;exact h p.1 p.2 hp
theorem zrg:∀{es:List (Int×AV)} {k:Int} {x:AV},zgw es k=some x→(k,x)∈es
 | [],_,_,h=>by cases h
 | (a, y) :: l, k, x, h => by
   simp only[zgw] at h
   by_cases e:a=k
   · rw[decide_eq_true e] at h;cases h;subst e;exact List.mem_cons_self
   · rw[decide_eq_false e] at h;exact List.mem_cons_of_mem _ (zrg h)
theorem zpn:∀{es:List (Int×AV)} {k:Int} {x:AV},RisK es→(k,x)∈es→zgw es k=some x
 | (a, y) :: l, k, x, hs, h => by
   obtain⟨h1,h2⟩:=ris_cons.1 hs;simp only[zgw];rcases List.mem_cons.1 h with e|e
   · cases e;rw[decide_eq_true rfl]
   · have := h1 k x e
     rw[decide_eq_false (by omega)]
     exact zpn h2 e
theorem zc2:∀{es:List (Int×AV)} {k:Int} {v:AV},RisK es→∀(j:Int) (x:AV),(j,x)∈insK es k v↔(j=k∧x=v)∨((j,x)∈es∧j≠k)
 | [],k,v,_,j,x=>by simp[insK]
 | (a, y) :: l, k, v, hs, j, x => by
   obtain⟨h1,h2⟩:=ris_cons.1 hs;simp only[insK]
   by_cases hlt:a<k
   · rw [decide_eq_true hlt]
     dsimp only;rw[List.mem_cons,zc2 h2,List.mem_cons]
     constructor
     · rintro (e | e | ⟨e, hne⟩)
       · cases e;exact .inr ⟨.inl rfl,by omega⟩
       · exact .inl e
       · exact .inr ⟨.inr e,hne⟩
     · rintro (e | ⟨e | e, hne⟩)
       · exact .inr (.inl e)
       · exact .inl e
       · exact .inr (.inr ⟨e,hne⟩)
   · rw [decide_eq_false hlt]
     dsimp only
     by_cases heq:a=k
     · rw [decide_eq_true heq]
       dsimp only;subst heq;rw[List.mem_cons,List.mem_cons]
       constructor
       · rintro (e | e)
         · cases e;exact .inl ⟨rfl,rfl⟩
         · have:=h1 j x e;exact .inr ⟨.inr e,by omega⟩
       · rintro (⟨rfl, rfl⟩ | ⟨e | e, hne⟩)
         · exact .inl rfl
         · cases e;exact absurd rfl hne
         · exact .inr e
     · rw [decide_eq_false heq]
       dsimp only;rw[List.mem_cons]
       constructor
       · rintro (e | e)
         · cases e;exact .inl ⟨rfl,rfl⟩
         · refine .inr ⟨e, ?_⟩
           rcases List.mem_cons.1 e with e|e
           · cases e;exact heq
           · have:=h1 j x e;omega
       · rintro (⟨rfl, rfl⟩ | ⟨e, hne⟩)
         · exact .inl rfl
         · exact .inr e
theorem zfw:∀{es:List (Int×AV)} {k:Int} {v:AV},RisK es→RisK (insK es k v)
 | [],k,v,_=>by simp[insK,RisK]
 | (a, y) :: l, k, v, hs => by
   obtain⟨h1,h2⟩:=ris_cons.1 hs;simp only[insK]
   by_cases hlt:a<k
   · rw [decide_eq_true hlt]
     dsimp only;refine ris_cons.2 ⟨fun j x e=>?_,zfw h2⟩
     rcases(zc2 h2 j x).1 e with⟨rfl,_⟩|⟨e,_⟩
     · exact hlt
     · exact h1 j x e
   · rw [decide_eq_false hlt]
     dsimp only
     by_cases heq:a=k
     · rw [decide_eq_true heq]
       dsimp only;subst heq;exact ris_cons.2 ⟨h1,h2⟩
     · rw [decide_eq_false heq]
       dsimp only;refine ris_cons.2 ⟨fun j x e=>?_,hs⟩
       rcases List.mem_cons.1 e with e|e
       · cases e;omega
       · have:=h1 j x e;omega
theorem zml {k:Int}:∀(es:List MapEntry) (i:Nat),(∀e∈es,∃j,e.key = .int .i64 j) →
 (Instr.findNow (.int .i64) (.int .i64 k) es i=some none∧∀e∈es,e.key≠.int .i64 k)∨∃j e,Instr.findNow (.int .i64) (.int .i64 k) es i=some (some (i+j,e.val))∧es[j]? = some e∧e.key = .int .i64 k
 | [],i,_ => .inl ⟨rfl,fun e he=>(by cases he)⟩
 | e :: es, i, h => by
   obtain⟨a,ha⟩:=h e List.mem_cons_self;simp only[Instr.findNow,ha,Instr.sameNow,if_true]
   by_cases hk:k=a
   · subst hk
     rw[show(k == k)=true by simp]
     exact .inr ⟨0,e,rfl,rfl,ha⟩
   · rw [show (k == a) = false by simpa using hk]
     rcases zml es (i+1) (fun e he=>h e (List.mem_cons_of_mem _ he)) with⟨h1,h2⟩|⟨j,e',h1,h2,h3⟩
     · refine .inl ⟨h1, fun e' he' => ?_⟩
       rcases List.mem_cons.1 he' with rfl|he'
       · rw[ha];intro h;injection h with _ h;exact hk h.symm
       · exact h2 e' he'
     · refine .inr ⟨j + 1, e', ?_, h2, h3⟩
       dsimp only;rw[h1,Nat.add_assoc,Nat.add_comm 1 j]
section
variable {P:Program} {E:Env} {G:zd9} {c:Ctx} {w:World} {H:zah} {nm:Nat}
theorem zcj {kt:TypeId}(h:P.underlying kt=some (.int .i64))(b:Bool)(k:Int)(w:World):(Instr.checkKey b 10000 kt (.int .i64 k)).run P w = .ok () w:=by
 rw[show(10000:Nat)=9999+1 from rfl,Instr.checkKey]
 simp only[Sem.run_bind,run_underlying h,Result.andThen_ok,Sem.run_pure]
theorem zgo {kt:TypeId}(h:P.underlying kt=some (.int .i64)){es:List MapEntry}(hes:∀e∈es,∃j,e.key = .int .i64 j)(k:Int)(w:World) :
 ((Instr.findKey kt (.int .i64 k) es).run P w = .ok none w∧∀e∈es,e.key≠.int .i64 k)∨∃j e,(Instr.findKey kt (.int .i64 k) es).run P w = .ok (some (j,e.val)) w∧es[j]? = some e∧e.key = .int .i64 k:=by
 unfold Instr.findKey;simp only[Sem.run_bind,run_underlying h,Result.andThen_ok];rcases zml (k:=k) es 0 hes with⟨h1,h2⟩|⟨j,e,h1,h2,h3⟩
 · rw[h1];exact .inl ⟨by simp only[Sem.run_pure],h2⟩
 · rw[h1];exact .inr ⟨j,e,by simp only[Sem.run_pure,Nat.zero_add],h2,h3⟩
theorem EntR.keys {R:AV→Value→Prop}{es:List (Int×AV)}{mes:List MapEntry}(h:EntR R es mes):∀e∈mes,∃j,e.key = .int .i64 j:=by
 obtain⟨f,h1,h2,_⟩:=h;intro e he;obtain⟨k,x,hx,rfl⟩:=h2 e he;exact⟨k,(h1 k x hx).2⟩
theorem EntR.none_ {R:AV→Value→Prop}{es:List (Int×AV)}{mes:List MapEntry}(h:EntR R es mes){k:Int}(hk:∀e∈mes,e.key≠.int .i64 k):zgw es k=none:=by
 obtain⟨f,h1,_,_⟩:=h;cases hf:zgw es k with
 | none=>rfl
 | some x =>
   obtain⟨g1,g2⟩:=h1 k x (zrg hf);exact absurd g2 (hk _ g1)
theorem EntR.some_ {R:AV→Value→Prop}{es:List (Int×AV)}{mes:List MapEntry}(h:EntR R es mes)(hs:RisK es){k:Int}{e:MapEntry}(he:e∈mes)(hk:e.key = .int .i64 k):∃x,zgw es k=some x∧R x e.val:=by
 obtain⟨f,h1,h2,h3⟩:=h;obtain⟨j,x,hx,rfl⟩:=h2 e he;have:=(h1 j x hx).2;rw[hk] at this
 injection this with _ hj
 subst hj;exact⟨x,zpn hs hx,h3 _ x hx⟩
theorem znu {t:TypeId}{key:AV}{f:TI→Int→Rd}{x:Eff ⊕ AV}(h:(zyi E t key f).run H=some x) :
 ∃ti kt et tk te k,key = .int .i64 k∧E.ti t=some ti∧ti.desc = .map kt et∧E.ti kt=some tk∧tk.desc = .int .i64∧E.ti et=some te∧(f te k).run H=some x:=by
 obtain⟨ti,h1,h⟩:=zao h;cases hd:ti.desc with
 | map kt et =>
   rw[hd] at h;cases key with
   | int q k =>
     cases q<;>first|exact(zad h).elim|skip
     obtain⟨tk,h2,h⟩:=zao h;cases hk:tk.desc with
     | int q =>
       rw[hk] at h;cases q<;>first|exact(zad h).elim|skip
       obtain⟨te,h3,h⟩:=zao h;exact⟨ti,kt,et,tk,te,k,rfl,h1,hd,h2,hk,h3,h⟩
     | _=>rw[hk] at h;exact(zad h).elim
   | _=>exact(zad h).elim
 | _=>rw[hd] at h;exact(zad h).elim
theorem zpc {t:TypeId}(hw:WRel G c w H)(hnm:c.f nm=none){r:Eff ⊕ AV}(h:(put1 (.mpo nm) nm (.mp [])).run H=some r):OutV G c w H nm r ((Instr.makeMap t none).run P w):=by
 obtain⟨hk24,rfl⟩:=zci h;obtain⟨h1,h2⟩:=hw.allocO (k:=nm) hnm hk24 (.map #[] 0) (.mp []) (sz:=0) (n:=0) (fun c' w' hh _ _=>⟨⟨rfl,rfl⟩,#[],0,hh,⟨by simp,by simp⟩,by simp[RisK],fun _=>default,(fun k x e=>by cases e),by simp,(fun k x e=>by cases e)⟩)
 refine⟨.map (some w.heap.size),_,_,?_,h1,h2,?_,fun k hk=>by simp[Ctx.bind,hk]⟩
 · simp only[Instr.makeMap,Sem.run_bind,Sem.run_pure,Result.andThen_ok,run_newObj_alloc]
 · exact Rel.mpo (B:=⟨w.heap.size,0,0,0⟩) (by simp[Ctx.bind])
theorem yiv {z:AV}{zv:Value}(ok:Bool)(hz:Rel c w z zv):Rel c w (lkK z ok none) (if ok then .tuple #[zv,.bool false] else zv):=by
 cases ok with
 | true=>exact Rel.tup (vs:=[zv,.bool false]) rfl (RelL.cons hz (.cons (.bool false) .nil)).2
 | false=>exact hz
theorem yef {z x:AV}{v:Value}(ok:Bool)(hx:Rel c w x v):Rel c w (lkK z ok (some x)) (if ok then .tuple #[v,.bool true] else v):=by
 cases ok with
 | true=>exact Rel.tup (vs:=[v,.bool true]) rfl (RelL.cons hx (.cons (.bool true) .nil)).2
 | false=>exact hx
theorem zq3 (hE:EnvOK P E)(hw:WRel G c w H){t:TypeId}{x key:AV}{v kv:Value}{ok:Bool}(hx:Rel c w x v)(hk:Rel c w key kv){r:Eff ⊕ AV}(h:(zqc E t x key ok).run H=some r) :
 OutV G c w H nm r ((Instr.lookup t v kv ok).run P w):=by
 obtain⟨ti,kt,et,tk,te,k,rfl,h1,h2,h3,h4,h5,h⟩:=znu h;obtain⟨d,hd,hd',hdd⟩:=zch (hE.ti t ti h1);rw[h2] at hdd;obtain rfl:d = .map kt et:=hdd;obtain⟨dk,hdk,hdk',hddk⟩:=zch (hE.ti kt tk h3);rw[h4] at hddk;obtain rfl:dk = .int .i64:=hddk;obtain⟨z,hz,_,_,_,hzr⟩:=zly (hE.ti et te h5) w;have hzr:Rel c w (zyg te) z:=hzr c w;cases hk;have main:∀(mes:Array MapEntry) (es:List (Int×AV)) (R:AV→Value→Prop),RisK es→EntR R es mes.toList→(∀x v,R x v→Rel c w x v) →
  ∀(res:Result Value),((Instr.findKey kt (.int .i64 k) mes.toList).run P w = .ok none w→res = .ok (if ok then .tuple #[z,.bool false] else z) w)→(∀j v,(Instr.findKey kt (.int .i64 k) mes.toList).run P w = .ok (some (j,v)) w→res = .ok (if ok then .tuple #[v,.bool true] else v) w) →
  OutV G c w H nm (.inl ⟨lkK (zyg te) ok (zgw es k),[]⟩) res:=by
  intro mes es R hs hent hR res r1 r2;rcases zgo hdk' hent.keys k w with⟨g1,g2⟩|⟨j,e,g1,g2,g3⟩
  · rw [r1 g1, hent.none_ g2]
    exact zak hw (yiv ok hzr)
  · obtain ⟨x, e1, e2⟩ := hent.some_ hs (List.mem_of_getElem? g2) g3
    rw[r2 _ _ g1,e1];exact zak hw (yef ok (hR _ _ e2))
 cases hx with
 | nilm =>
   obtain rfl:=zan h;refine main #[] [] (fun _ _=>False) (by simp[RisK]) ⟨fun _=>default,(fun k x e=>by cases e),by simp,(fun k x e=>by cases e)⟩ (fun _ _ h=>h.elim) _ (fun g=>?_) (fun j u g=>?_)
   all_goals simp[Instr.lookup,hd,zcj hdk',g,hz]
 | @rmp _ _ es m clock mes f hi hm hb hs hf he hr =>
   obtain rfl:=zan h;refine main mes es (Rel c.bare w) hs ⟨f,hf,he,hr⟩ (fun _ _ h=>h.of_bare) _ (fun g=>?_) (fun j u g=>?_)
   all_goals simp[Instr.lookup,hd,zcj hdk',g,hz,zc7 hm]
 | @mpo _ _ k' B hf =>
   obtain⟨o,ho,h⟩:=zgn h;cases o with
   | mp es =>
     obtain rfl:=zan h;obtain⟨B',hB',hBi,_,mes,clock,a1,a2,a3,a4⟩:=hw.obj k' _ ho;rw[hf] at hB';cases hB';refine main mes es (Rel c w) a3 a4 (fun _ _ h=>h) _ (fun g=>?_) (fun j u g=>?_)
     all_goals simp[Instr.lookup,hd,zcj hdk',g,hz,zc7 a1]
   | _=>exact(zad h).elim
 | _=>exact(zad h).elim
theorem yjo {R:AV→Value→Prop}{es:List (Int×AV)}{arr:Array MapEntry}{clock:Nat}{k:Int}{x:AV}{v:Value}(hm:MapOK arr clock)(hs:RisK es)(h:EntR R es arr.toList)(hx:R x v){i:Nat}{e:MapEntry}(he:arr.toList[i]? = some e)(hk:e.key = .int .i64 k) :
 MapOK (arr.modify i fun e=>{ e with key := .int .i64 k,val:=v }) clock∧EntR R (insK es k x) (arr.modify i fun e=>{ e with key := .int .i64 k,val:=v }).toList:=by
 have hget:∀p:Nat,(arr.modify i fun e=>{ e with key := .int .i64 k,val:=v }).toList[p]? = Functor.map (fun a=>if i=p then { a with key := .int .i64 k,val:=v } else a) arr.toList[p]?:=fun p=>by
  rw[Array.toList_modify,List.getElem?_modify]
 have hborn:(arr.modify i fun e=>{ e with key := .int .i64 k,val:=v }).toList.map (·.born)=arr.toList.map (·.born):=by
  refine List.ext_getElem? fun p=>?_
  rw[List.getElem?_map,List.getElem?_map,hget];cases arr.toList[p]? with
  | none=>rfl
  | some a=>simp only[Option.map_eq_map,Option.map_some];split<;>rfl
 have hmem:∀a,a∈(arr.modify i fun e=>{ e with key := .int .i64 k,val:=v }).toList→∃(p:Nat) (b:MapEntry),arr.toList[p]? = some b∧a=if i=p then { b with key := .int .i64 k,val:=v } else b:=by
  intro a ha;obtain⟨p,hp⟩:=List.mem_iff_getElem?.1 ha;rw[hget] at hp;cases hb:arr.toList[p]? with
  | none=>rw[hb] at hp;cases hp
  | some b=>rw[hb] at hp;simp only[Option.map_eq_map,Option.map_some,Option.some.injEq] at hp;exact⟨p,b,hb,hp.symm⟩
 refine⟨⟨fun a ha=>?_,by rw[hborn];exact hm.nd⟩,?_⟩
 · obtain ⟨p, b, hb, rfl⟩ := hmem a ha
   have:=hm.lt b (List.mem_of_getElem? hb);split<;>exact this
 · obtain ⟨f, h1, h2, h3⟩ := h
   
   have huniq:∀(p q:Nat) (a b:MapEntry),arr.toList[p]? = some a→arr.toList[q]? = some b→a.born=b.born→p=q:=fun p q a b ha hb hab=>by
    have hp:p<(arr.toList.map (·.born)).length:=by rw[List.length_map];exact(List.getElem?_eq_some_iff.1 ha).1
    refine(List.getElem?_inj hp hm.nd).1 ?_;rw[List.getElem?_map,List.getElem?_map,ha,hb,Option.map_some,Option.map_some,hab]
   refine⟨fun j=>if j=k then { e with key := .int .i64 k,val:=v } else f j,fun j y hj=>?_,fun a ha=>?_,fun j y hj=>?_⟩
   · dsimp only
     rcases(zc2 hs j y).1 hj with⟨rfl,rfl⟩|⟨hj,hne⟩
     · rw [if_pos rfl]
       refine⟨List.mem_iff_getElem?.2 ⟨i,?_⟩,rfl⟩;rw[hget,he];simp
     · rw [if_neg hne]
       obtain⟨g1,g2⟩:=h1 j y hj;refine⟨?_,g2⟩;obtain⟨p,hp⟩:=List.mem_iff_getElem?.1 g1;refine List.mem_iff_getElem?.2 ⟨p,?_⟩;rw[hget,hp];have:i≠p:=by
        rintro rfl
        rw[he] at hp;cases hp;rw[hk] at g2
        injection g2 with _ g2
        exact hne g2.symm
       simp[this]
   · obtain ⟨p, b, hb, rfl⟩ := hmem a ha
     by_cases hip:i=p
     · rw [if_pos hip]
       subst hip;rw[he] at hb;cases hb;exact⟨k,x,(zc2 hs k x).2 (.inl ⟨rfl,rfl⟩),(if_pos rfl).symm⟩
     · rw [if_neg hip]
       obtain⟨j,y,hj,rfl⟩:=h2 b (List.mem_of_getElem? hb);have hne:j≠k:=by
        rintro rfl
        obtain⟨j',y',hj',he'⟩:=h2 e (List.mem_of_getElem? he);have h5:=(h1 j' y' hj').2;rw[← he',hk] at h5
        injection h5 with _ h5
        subst h5;exact hip (huniq i p _ _ he hb (by rw[he']))
       exact⟨j,y,(zc2 hs j y).2 (.inr ⟨hj,hne⟩),(if_neg hne).symm⟩
   · dsimp only
     rcases(zc2 hs j y).1 hj with⟨rfl,rfl⟩|⟨hj,hne⟩
     · rw[if_pos rfl];exact hx
     · rw[if_neg hne];exact h3 j y hj
theorem yjp {R:AV→Value→Prop}{es:List (Int×AV)}{arr:Array MapEntry}{clock:Nat}{k:Int}{x:AV}{v:Value}(hm:MapOK arr clock)(hs:RisK es)(h:EntR R es arr.toList)(hx:R x v)(hk:∀e∈arr.toList,e.key≠.int .i64 k) :
 MapOK (arr.push { key := .int .i64 k,val:=v,born:=clock }) (clock+1)∧EntR R (insK es k x) (arr.push { key := .int .i64 k,val:=v,born:=clock }).toList:=by
 rw[show(arr.push { key := .int .i64 k,val:=v,born:=clock }).toList=arr.toList++[{ key := .int .i64 k,val:=v,born:=clock }] by simp]
 refine⟨⟨fun a ha=>?_,?_⟩,?_⟩
 · rw [show (arr.push { key := .int .i64 k, val := v, born := clock }).toList = arr.toList ++ [{ key := .int .i64 k, val := v, born := clock }] by simp] at ha
   rcases List.mem_append.1 ha with ha|ha
   · have:=hm.lt a ha;omega
   · rw[List.mem_singleton.1 ha];exact Nat.lt_succ_self _
 · rw [show (arr.push { key := .int .i64 k, val := v, born := clock }).toList = arr.toList ++ [{ key := .int .i64 k, val := v, born := clock }] by simp, List.map_append, List.nodup_append]
   refine⟨hm.nd,by simp,fun a ha b hb=>?_⟩
   obtain⟨e,he,rfl⟩:=List.mem_map.1 ha;simp only[List.map_cons,List.map_nil,List.mem_singleton] at hb;subst hb;have:=hm.lt e he;omega
 · obtain ⟨f, h1, h2, h3⟩ := h
   have hno:∀j y,(j,y)∈es→j≠k:=fun j y hj e=>by
    subst e;exact hk _ (h1 j y hj).1 (h1 j y hj).2
   refine⟨fun j=>if j=k then { key := .int .i64 k,val:=v,born:=clock } else f j,fun j y hj=>?_,fun a ha=>?_,fun j y hj=>?_⟩
   · dsimp only
     rcases(zc2 hs j y).1 hj with⟨rfl,rfl⟩|⟨hj,hne⟩
     · rw[if_pos rfl];exact⟨by simp,rfl⟩
     · rw[if_neg hne];exact⟨List.mem_append_left _ (h1 j y hj).1,(h1 j y hj).2⟩
   · rcases List.mem_append.1 ha with ha | ha
     · obtain ⟨j, y, hj, rfl⟩ := h2 a ha
       exact⟨j,y,(zc2 hs j y).2 (.inr ⟨hj,hno j y hj⟩),(if_neg (hno j y hj)).symm⟩
     · rw [List.mem_singleton.1 ha]
       exact⟨k,x,(zc2 hs k x).2 (.inl ⟨rfl,rfl⟩),(if_pos rfl).symm⟩
   · dsimp only
     rcases(zc2 hs j y).1 hj with⟨rfl,rfl⟩|⟨hj,hne⟩
     · rw[if_pos rfl];exact hx
     · rw[if_neg hne];exact h3 j y hj
theorem zq1 (hE:EnvOK P E)(hw:WRel G c w H){t:TypeId}{m key x:AV}{mv kv v:Value}(hm:Rel c w m mv)(hk:Rel c w key kv)(hx:Rel c w x v){r:Eff ⊕ AV}(h:(zqb E t m key x).run H=some r) :
 ∃eff w',r = .inl eff∧(Instr.mapUpdate t mv kv v).run P w = .ok () w'∧Ext c w H c w' (Eff.upd H eff.up)∧WRel G c w' (Eff.upd H eff.up)∧eff.val = .any:=by
 obtain⟨ti,kt,et,tk,te,k,rfl,h1,h2,h3,h4,h5,h⟩:=znu h;obtain⟨d,hd,hd',hdd⟩:=zch (hE.ti t ti h1);rw[h2] at hdd;obtain rfl:d = .map kt et:=hdd;obtain⟨dk,hdk,hdk',hddk⟩:=zch (hE.ti kt tk h3);rw[h4] at hddk;obtain rfl:dk = .int .i64:=hddk;cases hk;cases hm with
 | @mpo _ _ k' B hf =>
   obtain⟨o,ho,h⟩:=zgn h;cases o with
   | mp es =>
     obtain⟨hk24,rfl⟩:=zci h;obtain⟨B',hB',hBi,a0,mes,clock,a1,a2,a3,a4⟩:=hw.obj k' _ ho;rw[hf] at hB';cases hB';rcases zgo hdk' a4.keys k w with⟨g1,g2⟩|⟨j,e,g1,g2,g3⟩
     · obtain ⟨b1, b2⟩ := yjp a2 a3 a4 hx g2
       obtain⟨e1,e2⟩:=hw.setO ho hf hk24 (.map (mes.push { key := .int .i64 k,val:=v,born:=clock }) (clock+1)) (.mp (insK es k x)) (fun w' hh hrel _=>⟨a0,_,_,hh,b1,zfw a3,b2.mono fun _ _ h=>hrel h⟩)
       refine⟨_,_,rfl,?_,e1,e2,rfl⟩;simp only[Instr.mapUpdate,Sem.run_bind,hd,Result.andThen_ok,zc7 a1,zcj hdk',g1,zh0 a1]
     · obtain ⟨b1, b2⟩ := yjo a2 a3 a4 hx g2 g3
       obtain⟨e1,e2⟩:=hw.setO ho hf hk24 (.map (mes.modify j fun e=>{ e with key := .int .i64 k,val:=v }) clock) (.mp (insK es k x)) (fun w' hh hrel _=>⟨a0,_,_,hh,b1,zfw a3,b2.mono fun _ _ h=>hrel h⟩)
       refine⟨_,_,rfl,?_,e1,e2,rfl⟩;have hg:mes[j]? = some e:=by rw[← Array.getElem?_toList];exact g2
       have hstay:(Instr.keyThatStays (((mes[j]?).map (·.key)).getD (.int .i64 k)) (.int .i64 k)).run P w = .ok (.int .i64 k) w:=by
        rw[hg];simp only[Option.map_some,Option.getD_some,g3];unfold Instr.keyThatStays;rw[if_pos (by rw[Instr.sameBits];simp)]
        simp only[Sem.run_pure]
       simp only[Instr.mapUpdate,Sem.run_bind,hd,Result.andThen_ok,zc7 a1,zcj hdk',g1,hstay,zh0 a1]
   | _=>exact(zad h).elim
 | _=>exact(zad h).elim
theorem ztm (hw:WRel G c w H){x:AV}{v:Value}(hx:Rel c w x v){r:Eff ⊕ AV}(h:(zo3 x).run H=some r):OutV G c w H nm r ((Instr.entry v).run P w):=by
 unfold zo3 at h;split at h
 · rename_i k
   obtain⟨o,ho,h⟩:=zgn h;cases o with
   | mit cur es =>
     cases cur with
     | none=>exact(zad h).elim
     | some p =>
       obtain⟨j,y⟩:=p;obtain rfl:=zan h;cases hx with
       | @ptr _ _ _ _ _ B hf =>
         obtain⟨B',hf',hi,⟨h1,h2⟩,rr,mes,clock,seen,a1,a2,a3,a4,a5,a6,a7⟩:=hw.obj k _ ho;rw[hf] at hf';cases hf';obtain⟨seen0,e,rfl,e2,e3,e4⟩:=a7 j y rfl;have hp:(⟨B.b,B.s+(0 * B.sz+0),none⟩:Addr)=⟨B.b,0,none⟩:=by rw[h1];simp
         rw[hp,run_entry_at w B.b rr clock seen0 mes clock e a1 a3 e2 a4.nd,e3];have:=RelL.cons (c:=c) (w:=w) (.int .i64 j) (.cons e4.of_bare .nil);exact zak hw (.tup this.1 this.2)
   | _=>exact(zad h).elim
 · exact(zad h).elim
end
end Go.Ago
end
section
namespace Go.Ago
section
variable {P:Program} {E:Env} {G:zd9} {c:Ctx} {w:World} {H:zah} {nm:Nat}
def OutN (G:zd9)(c:Ctx)(w:World)(H:zah)(nm:Nat):Eff ⊕ AV→Result Next→Prop
 | .inl eff,res=>∃nx w' c',res = .ok nx w'∧Ext c w H c' w' (Eff.upd H eff.up)∧WRel G c' w' (Eff.upd H eff.up)∧(∀k,k≠nm→c'.f k=c.f k) ∧
  ((∃v,nx = .value v∧Rel c' w' eff.val v)∨(nx = .skip∧eff.val = .any))
 | .inr x,res=>∃v,res = .halt (.panic v) w∧Rel c w x v
theorem OutV.next {r:Eff ⊕ AV}{s:Sem Value}(h:OutV G c w H nm r (s.run P w)):OutN G c w H nm r ((do pure (Next.value (← s)):Sem Next).run P w):=by
 cases r with
 | inl eff =>
   obtain⟨v,w',c',h1,h2,h3,h4,h5⟩:=h;exact⟨.value v,w',c',by simp[h1],h2,h3,h5,.inl ⟨v,rfl,h4⟩⟩
 | inr x =>
   obtain⟨v,h1,h2⟩:=h;exact⟨v,by simp[h1,Result.andThen],h2⟩
theorem zb8 {r:Eff ⊕ AV}{res:Result Next}{x:AV}{v:Value}(hw:WRel G c w H)(hr:Rel c w x v)(h:r = .inl ⟨x,[]⟩)(h':res = .ok (.value v) w):OutN G c w H nm r res:=by
 subst h;subst h';exact⟨_,w,c,rfl,Ext.refl c w H,hw,fun _ _=>rfl,.inl ⟨v,rfl,hr⟩⟩
theorem zpu {ρ:Operand→AV}{σ:Operand→Value}(hρ:∀x,Rel c w (ρ x) (σ x))(o:Option Operand):zdf c w (o.map ρ) (o.map σ):=by
 cases o with
 | none=>trivial
 | some x=>exact hρ x
theorem zfz {ρ:Operand→AV}{σ:Operand→Value}(hρ:∀x,Rel c w (ρ x) (σ x))(l:List Operand):RelL c w (l.map ρ) (l.map σ):=
 ⟨by simp,fun i x v e e'=>by
  simp only[List.getElem?_map,Option.map_eq_some_iff] at e e';obtain⟨a,ha,rfl⟩:=e;obtain⟨b,hb,rfl⟩:=e';rw[ha] at hb;cases hb;exact hρ a⟩
theorem zqu {ρ:Operand→AV}{σ:Operand→Value}(hρ:∀x,Rel c w (ρ x) (σ x))(l:List (Nat×Operand)) :
 ∀(i:Nat) (p:Nat×AV) (q:Nat×Value),(l.map fun (i,x)=>(i,ρ x))[i]? = some p→(l.map fun (i,x)=>(i,σ x))[i]? = some q→p.1=q.1∧Rel c w p.2 q.2:=by
 intro i p q e e';simp only[List.getElem?_map,Option.map_eq_some_iff] at e e';obtain⟨⟨a,x⟩,ha,rfl⟩:=e;obtain⟨⟨b,y⟩,hb,rfl⟩:=e';rw[ha] at hb;cases hb;exact⟨rfl,hρ x⟩
theorem zlv (hE:EnvOK P E)(hw:WRel G c w H)(hnm:c.f nm=none){ρ:Operand→AV}{σ:Operand→Value}(hρ:∀x,Rel c w (ρ x) (σ x))(o:Oper){r:Eff ⊕ AV}(h:(sem E nm ρ o.op).run H=some r) :
 OutN G c w H nm r ((execOp σ o).run P w):=by
 obtain⟨dst,op,type,pos,after,guard⟩:=o;cases op<;>(try exact(zad h).elim)
 case move x=>exact zb8 hw (hρ x) (zan h) rfl
 case assign x=>exact zb8 hw (hρ x) (zan h) rfl
 case pick a b d=>
  have ha:=hρ a;simp only[sem,zy5] at h;cases hb:ρ a<;>rw[hb] at h ha<;>(try exact(zad h).elim)
  rename_i t
  generalize hσ:σ a=sv at ha
  cases ha;rcases znv h with⟨rfl,h⟩|⟨rfl,h⟩
  · exact zb8 hw (hρ b) (zan (H:=H) h) (by simp[execOp,hσ,asBool])
  · exact zb8 hw (hρ d) (zan (H:=H) h) (by simp[execOp,hσ,asBool])
 case alloc t=>exact(zt0 hE hw hnm h).next
 case box t x=>exact(yck hE hw hnm (hρ x) h).next
 case build t ps=>
  have:=ztw (nm:=nm) hE hw (by simp) (zqu hρ ps.toList) h
  have e:(List.map (fun (x:Nat×Operand)=>(x.1,σ x.2)) ps.toList).toArray=ps.map (fun x=>(x.1,σ x.2)):=Array.ext' (by simp)
  rw[e] at this;exact this.next
 case buildSlice t n ps=>
  have:=zkn (nm:=nm) hE hw hnm (by simp) (zqu hρ ps.toList) h
  have e:(List.map (fun (x:Nat×Operand)=>(x.1,σ x.2)) ps.toList).toArray=ps.map (fun x=>(x.1,σ x.2)):=Array.ext' (by simp)
  rw[e] at this;exact this.next
 case load t a=>exact(zxh hE hw (hρ a) h).next
 case store t a x=>
  obtain⟨eff,w',c',rfl,h1,h2,h3,h4,h5⟩:=zst hE hw (hρ a) (hρ x) h;exact⟨.skip,w',c',by simp[execOp,h1],h2,h3,fun k _=>h5 k,.inr ⟨rfl,h4⟩⟩
 case nilCheck x=>
  have hx:=hρ x;simp only[sem] at h
  generalize ρ x=a at h hx
  generalize hσ:σ x=v at hx
  cases hx with
  | ptr hf=>exact zb8 hw (.ptr hf) (zan h) (by simp[execOp,hσ])
  | rptr hi hl hc hr=>exact zb8 hw (.rptr hi hl hc hr) (zan h) (by simp[execOp,hσ])
  | fn f h1 h2 hr1 hr2 =>
    cases f<;>(try exact(zad h).elim)
    exact zb8 hw (.fn _ h1 h2 hr1 hr2) (zan h) (by simp[execOp,hσ])
  | ifc t hy=>exact zb8 hw (.ifc t hy) (zan h) (by simp[execOp,hσ])
  | _=>exact(zad h).elim
 case binOp op t x y t2=>exact(ycr hE hw (hρ x) (hρ y) h).next
 case unOp op t x=>exact(ydh hw (hρ x) h).next
 case convert s d x=>exact(zps hE hw (hρ x) h).next
 case makeInterface t x=>exact(ztc hE hw (hρ x) h).next
 case makeFunc f xs ys=>
  refine zb8 (v := .func f (xs.map σ) (ys.map σ)) hw ?_ (zan h) (by simp[execOp,Instr.makeFunc])
  have h1:=zfz hρ xs.toList;have h2:=zfz hρ ys.toList;have:=Rel.fn f h1.1 h2.1 h1.2 h2.2;have e:∀l:Array Operand,(l.toList.map σ).toArray=l.map σ:=fun l=>Array.ext' (by simp)
  rw[e,e] at this;exact this
 case makeSlice t l k=>exact(zma hE hw hnm (hρ l) (hρ k) h).next
 case slice t x lo hi mx=>exact(zsx hE hw (hρ x) (zpu hρ lo) (zpu hρ hi) (zpu hρ mx) h).next
 case fieldAddr t x f=>exact(zmo hE hw (hρ x) h).next
 case field t x f=>exact(ztj hE hw (hρ x) h).next
 case indexAddr t x i=>exact(zme hE hw (hρ x) (hρ i) h).next
 case index t x i=>exact(zs9 hE hw (hρ x) (hρ i) h).next
 case typeAssert x st t ok=>exact(zr1 hE hw (hρ x) h).next
 case extract x i=>exact(zpo hw (hρ x) h).next
 case range t x=>exact(zs3 hE hw hnm (hρ x) h).next
 case makeMap t res=>
  cases res with
  | some x=>exact(zad h).elim
  | none=>exact(zpc hw hnm h).next
 case lookup t x i ok=>exact(zq3 hE hw (hρ x) (hρ i) h).next
 case mapUpdate t m k v=>
  obtain⟨eff,w',rfl,h1,h2,h3,h4⟩:=zq1 hE hw (hρ m) (hρ k) (hρ v) h;exact⟨.skip,w',c,by simp[execOp,h1],h2,h3,fun _ _=>rfl,.inr ⟨rfl,h4⟩⟩
 case entry x=>exact(ztm hw (hρ x) h).next
 case next x str=>exact(zxe hw (hρ x) h _).next
 case panic x=>
  have hx:=hρ x;simp only[sem] at h
  generalize ρ x=a at h hx
  generalize hσ:σ x=v at hx
  cases hx with
  | @ifc _ _ t y u hy =>
    have:r = .inr (.ifc t y):=by simp[Rd.run] at h;exact h.symm
    subst this;exact⟨.iface t u,by simp[execOp,hσ,Instr.panic,Result.andThen],.ifc t hy⟩
  | _=>exact(zad h).elim
 case call cl=>
  obtain⟨callee,args,ts⟩:=cl;cases callee<;>(try exact(zad h).elim)
  rename_i b;have hargs:=zfz hρ args.toList;have hmap:args.map σ=(args.toList.map σ).toArray:=Array.ext' (by simp)
  simp only[sem,zhc] at h
  generalize hA:args.toList.map ρ=A at h hargs
  generalize hV:args.toList.map σ=V at hargs hmap
  cases b<;>(try exact(zad h).elim)
  case append=>
   match hts:ts.toList,A,h,hargs with
   | [t, tx], [s, x], h2, hargs2 =>
     obtain⟨v1,V1,rfl,hr1,hargs3⟩:=hargs2.inv_cons;obtain⟨v2,V2,rfl,hr2,hargs4⟩:=hargs3.inv_cons;obtain rfl:=hargs4.inv_nil;have hts':ts=#[t,tx]:=by apply Array.ext';simpa using hts
     subst hts';have:=zr2 (ty:=type) hE hw hnm hr1 hr2 h2;simp only[execOp,resolve,invoke,builtin,Sem.run_bind,Sem.run_pure,Result.andThen_ok,hmap]
     simpa using this.next (P:=P)
  case len=>
   match hts:ts.toList,A,h,hargs with
   | [t], [x], h2, hargs2 =>
     obtain⟨v1,V1,rfl,hr1,hargs3⟩:=hargs2.inv_cons;obtain rfl:=hargs3.inv_nil;have hts':ts=#[t]:=by apply Array.ext';simpa using hts
     subst hts';have:=yad (nm:=nm) (ty:=type) hE hw hr1 h2;simp only[execOp,resolve,invoke,builtin,Sem.run_bind,Sem.run_pure,Result.andThen_ok,hmap]
     simpa using this.next (P:=P)
  case cap=>
   match hts:ts.toList,A,h,hargs with
   | [t], [x], h2, hargs2 =>
     obtain⟨v1,V1,rfl,hr1,hargs3⟩:=hargs2.inv_cons;obtain rfl:=hargs3.inv_nil;have hts':ts=#[t]:=by apply Array.ext';simpa using hts
     subst hts';have:=yb9 (nm:=nm) (ty:=type) hE hw hr1 h2;simp only[execOp,resolve,invoke,builtin,Sem.run_bind,Sem.run_pure,Result.andThen_ok,hmap]
     simpa using this.next (P:=P)
  case clear=>
   match hts:ts.toList,A,h,hargs with
   | [t], [x], h2, hargs2 =>
     obtain⟨v1,V1,rfl,hr1,hargs3⟩:=hargs2.inv_cons;obtain rfl:=hargs3.inv_nil;have hts':ts=#[t]:=by apply Array.ext';simpa using hts
     subst hts';have:=zts (nm:=nm) (ty:=type) hE hw hr1 h2;simp only[execOp,resolve,invoke,builtin,Sem.run_bind,Sem.run_pure,Result.andThen_ok,hmap]
     simpa using this.next (P:=P)
  case max=>
   have:=zq0 (P:=P) (nm:=nm) (ts:=ts) (ty:=type) (mx:=true) hw hargs h;simp only[execOp,resolve,invoke,builtin,Sem.run_bind,Sem.run_pure,Result.andThen_ok,hmap]
   simpa using this.next (P:=P)
  case min=>
   have:=zq0 (P:=P) (nm:=nm) (ts:=ts) (ty:=type) (mx:=false) hw hargs h;simp only[execOp,resolve,invoke,builtin,Sem.run_bind,Sem.run_pure,Result.andThen_ok,hmap]
   simpa using this.next (P:=P)
end
end Go.Ago
end
