/-
  Part 8: lemmas, each with its own conditions.
-/
import Derived.Deep.LoopGhost
import Derived.Orders
import Derived.Test.YthaolifcglpkdaaGreatDoorA07
set_option maxRecDepth 100000
set_option maxHeartbeats 0
set_option linter.all false
section
namespace Go.Ago
def zd8:List AV→Nat→Tr AV→Tr AV
 | [],_,t=>t
 | x::l,i,t=>zd8 l (i+1) (t.set 24 i (some x))
def St.init (args:List AV)(n:Nat)(H:zah)(nx:Nat):St:={ slots:=zd8 args 0 .nil,nsl:=args.length+(n - args.length),heap:=H,next:=nx }
def res1 (E:Env)(S:St):ResultVar→Option AV
 | .tmp t => some (match S.slots.get t with
   | some x=>x
   | none => .any)
 | .cell a t => match S.slots.get a with
   | some p => match (zo2 E t p).run S.heap with
     | some (.inl ⟨v,[]⟩)=>some v
     | _=>none
   | none=>none
def resA (E:Env)(fn:Func)(S:St):Option AV:=
 match mapO (res1 E S) fn.results.toList with
 | some [x]=>some x
 | some l=>some (.tup l)
 | none=>none
def retK (E:Env)(fn:Func)(Q:AE→Prop):AX→St→Prop
 | .normal, S | .ret, S => match resA E fn S with
   | some x => match snap S.heap 20 x with
     | some y=>Q (.ret y)
     | none=>False
   | none=>False
 | .pan v, S => match snap S.heap 20 v with
   | some y=>Q (.pan y)
   | none=>False
 | _,_=>False
def retH (E:Env)(fn:Func)(R:AE→zah→Nat→Prop):AX→St→Prop
 | .normal, S | .ret, S => match resA E fn S with
   | some x=>R (.ret x) S.heap S.next
   | none=>False
 | .pan v,S=>R (.pan v) S.heap S.next
 | _,_=>False
section
variable {P:Program} {E:Env} {c:Ctx} {S:St} {a:Act} {w:World} {H:zah}
theorem zvz:∀(l:List AV) (i:Nat) (t:Tr AV) (j:Nat),i+l.length<2 ^ 20→(zd8 l i t).get j=if i≤j∧j<i+l.length then l[j - i]? else t.get j
 | [],i,t,j,_=>by simp only[zd8,List.length_nil];rw[if_neg (by omega)]
 | x :: l, i, t, j, h => by
   simp only[List.length_cons] at h;simp only[zd8];rw[zvz l (i+1) _ j (by omega),Tr.get_set 24 i _ _ j (by have h20:(2:Nat) ^ 20≤2 ^ 24:=(by decide);omega)]
   simp only[List.length_cons]
   by_cases h1:i+1≤j∧j<i+1+l.length
   · rw[if_pos h1,if_pos (by omega),show j - i=(j - (i+1))+1 by omega,List.getElem?_cons_succ]
   · rw [if_neg h1]
     by_cases h2:j=i
     · subst h2;rw[if_pos rfl,if_pos (by omega)];simp
     · rw[if_neg h2,if_neg (by omega)]
theorem Sim.init {args:List AV}{vs:List Value}{n nx:Nat}(hr:RelL c w args vs)(hw:WRel E.glob c w H)(hf:∀k,nx≤k→c.f k=none)(hl:args.length<2 ^ 20) :
 Sim P E c (St.init args n H nx) { tmps:=vs.toArray++Array.replicate (n - vs.toArray.size) undef,defers:=[] } w:=by
 refine⟨by simp[St.init,hr.1],fun t x e=>?_,trivial,hw,hf⟩
 simp only[St.init] at e;rw[zvz args 0 .nil t (by omega)] at e
 by_cases h1:0≤t∧t<0+args.length
 · rw [if_pos h1] at e
   obtain⟨v,hv,hrv⟩:=hr.get (i:=t) (by simpa using e)
   refine⟨v,?_,hrv⟩;have htl:t<vs.length:=(List.getElem?_eq_some_iff.1 hv).1;rw[Array.getElem?_append_left (by simpa using htl)]
   simpa using hv
 · rw[if_neg h1] at e;cases e
def resF (tmps:Array Value):ResultVar→Sem Value
 | .tmp t=>pure (tmps.getD t undef)
 | .cell a t=>do loadVar t (← asAddr (tmps.getD a undef))
theorem zw0 (hE:EnvOK P E)(hs:Sim P E c S a w){r:ResultVar}{x:AV}(h:res1 E S r=some x) :
 ∃v,(resF a.tmps r).run P w = .ok v w∧Rel c w x v:=by
 cases r with
 | tmp t =>
   simp only[res1,Option.some.injEq] at h;subst h;exact⟨_,rfl,hs.ev (.tmp t)⟩
 | cell ad t =>
   simp only[res1] at h;cases e:S.slots.get ad with
   | none=>rw[e] at h;cases h
   | some p =>
     rw[e] at h;dsimp only at h;obtain⟨u,hu,hru⟩:=hs.slots ad p e;have hD:a.tmps.getD ad undef=u:=by simp[Array.getD_eq_getD_getElem?,hu]
     split at h
     · rename_i v hrun
       simp only[Option.some.injEq] at h;subst h;obtain⟨y,v',e1,h1,h2⟩:=zn5 hE hs.wrel hru hrun;cases e1;have hld:∃ad',u = .pointer (some ad'):=by
        cases hru<;>first|exact⟨_,rfl⟩|exact(zad hrun).elim
       obtain⟨ad',rfl⟩:=hld;refine⟨v',?_,h2⟩;simp only[resF,hD]
       simpa[asAddr,Instr.loadAt,Instr.sureAddr] using h1
     · cases h
theorem zvn (hE:EnvOK P E)(hs:Sim P E c S a w):∀(l:List ResultVar) (xs:List AV),mapO (res1 E S) l=some xs →
 ∃vs,(l.mapM (resF a.tmps)).run P w = .ok vs w∧RelL c w xs vs
 | [],xs,h=>by simp only[mapO,Option.some.injEq] at h;subst h;exact⟨[],rfl,.nil⟩
 | r :: l, xs, h => by
   simp only[mapO] at h;cases h1:res1 E S r with
   | none=>rw[h1] at h;cases h
   | some x =>
     rw[h1] at h;dsimp only at h;cases h2:mapO (res1 E S) l with
     | none=>rw[h2] at h;cases h
     | some ys =>
       rw[h2] at h;simp only[Option.some.injEq] at h;subst h;obtain⟨v,hv,hr⟩:=zw0 hE hs h1;obtain⟨vs,hvs,hrs⟩:=zvn hE hs l ys h2;refine⟨v::vs,?_,.cons hr hrs⟩;rw[List.mapM_cons,Sem.run_bind,hv,Result.andThen_ok,Sem.run_bind,hvs,Result.andThen_ok];rfl
theorem zhe (hE:EnvOK P E)(hs:Sim P E c S a w){fn:Func}{x:AV}(h:resA E fn S=some x):∃v,(results fn a.tmps).run P w = .ok v w∧Rel c w x v:=by
 unfold resA at h;cases hm:mapO (res1 E S) fn.results.toList with
 | none=>rw[hm] at h;cases h
 | some xs =>
   rw[hm] at h;obtain⟨vs,h1,h2⟩:=zvn hE hs _ _ hm;have hrun:(results fn a.tmps).run P w = .ok (if h:vs.toArray.size=1 then vs.toArray[0] else .tuple vs.toArray) w:=by
    have hdef : results fn a.tmps = (do
     let vs ← fn.results.mapM (resF a.tmps)
     pure (if h:vs.size=1 then vs[0] else .tuple vs)):=rfl
    rw[hdef,Sem.run_bind,Array.mapM_eq_mapM_toList];simp only[Sem.run_map,h1,Result.andThen_ok];rfl
   rw[hrun];refine⟨_,rfl,?_⟩
   match xs,h,h2 with
   | [y], h, h2 =>
     simp only[Option.some.injEq] at h;subst h;obtain⟨v,us,rfl,hv,hus⟩:=h2.inv_cons;obtain rfl:=hus.inv_nil;exact hv
   | [], h, h2 =>
     simp only[Option.some.injEq] at h;subst h;obtain rfl:=h2.inv_nil;exact Rel.tup h2.1 h2.2
   | y :: z :: ys, h, h2 =>
     simp only[Option.some.injEq] at h;subst h;have hl:vs.toArray.size≠1:=by have:=h2.1;simp at this ⊢;omega
     rw[dif_neg hl];exact Rel.tup h2.1 h2.2
theorem DefOK.mem {hi D:Nat}:∀{hi:Nat} {ds:List Deferred},DefOK c w hi ds→({ target := .collected D,args:=#[] }:Deferred)∈ds→¬c.imm D∧w.heap[D]? = some (.deferred (some []))
 | _, d :: ds, ⟨D', h1, h2, h3, h4, h5⟩, hm => by
   rcases List.mem_cons.1 hm with e|hm
   · rw[h1] at e;injection e with e;injection e with e;subst e;exact⟨h3,h4⟩
   · exact DefOK.mem (hi:=hi) h5 hm
theorem zcw {F:Fence}{n:Nat}{fn:Func}{tmps:Array Value}{R:Ending→World→Prop}{u:FrameMode}(hu:u≠.run):∀{ds:List Deferred} {hi:Nat} {w:World},DefOK c w hi ds →
 (∀w':World,w'.heap.size=w.heap.size→w'.os=w.os→w'.tape=w.tape→w'.output=w.output→(∀b,(∀D,({ target := .collected D,args:=#[] }:Deferred)∈ds→b≠D)→w'.heap[b]? = w.heap[b]?)→LeavesIn F n P fn tmps R [] u w') →
 LeavesInM F n P fn tmps R ds u w
 | [],_,w,_,h=>h w rfl rfl rfl rfl (fun _ _=>rfl)
 | d :: ds, _, w, ⟨D, h1, h2, h3, h4, h5⟩, h => by
   refine⟨hu,.inl ⟨D,w.putObj D (.deferred none),by rw[h1],run_takeDeferred h4,zcw hu (hi:=D) ?_ fun w' e1 e2 e3 e4 e5=>h w' ?_ e2 e3 e4 fun b hb=>?_⟩⟩
   · exact h5.mono (Nat.le_refl _) fun D' hD' g1 g2=>⟨g1,(World.putObj_heap_other (by omega)).trans g2⟩
   · rw[e1,World.putObj_size]
   · rw [e5 b fun D' hD' => hb D' (List.mem_cons_of_mem _ hD')]
     exact World.putObj_heap_other (hb D (by rw[h1];exact List.mem_cons_self))
theorem Sim.shut (h:Sim P E c S a w){w':World}(hs:w'.heap.size=w.heap.size)(hb:∀b,(∀D,({ target := .collected D,args:=#[] }:Deferred)∈a.defers→b≠D)→w'.heap[b]? = w.heap[b]?) :
 Sim P E c S { a with defers:=[] } w'∧∀{x v},Rel c w x v→Rel c w' x v:=by
 have himm:∀b,c.imm b→w'.heap[b]? = w.heap[b]?:=fun b hi=>hb b fun D hm e=>(h.defers.mem (hi:=0) hm).1 (e ▸ hi)
 have hrel:∀{x v},Rel c w x v→Rel c w' x v:=fun hr=>hr.mono (.refl c) himm
 refine⟨⟨h.size,fun t x e=>by obtain⟨v,h1,h2⟩:=h.slots t x e;exact⟨v,h1,hrel h2⟩,trivial,⟨fun b hi=>by rw[hs];exact h.wrel.imm_lt b hi,fun k B e=>by rw[hs];exact h.wrel.f_lt k B e,fun k o e=>?_,h.wrel.inj,fun g cs e=>hrel (h.wrel.glob g cs e)⟩,h.fresh⟩,hrel⟩
 obtain⟨B,h1,h2,h3⟩:=h.wrel.obj k o e;exact⟨B,h1,h2,h3.mono (hb _ fun D hm e'=>h.wrel.not_own_def (h.defers.mem (hi:=0) hm).2 ⟨k,o,B,e,h1,e'⟩) hrel (fun b hb=>⟨hb,himm b hb⟩)⟩
theorem ExtM.shut {m:Nat}{c':Ctx}{w' w'':World}{H':zah}{a':Act}{tm:Array Value}(h:ExtM m c w H c' w' H')(hg:Gd w { tmps:=tm,defers:=[] } a')(hs:w''.heap.size=w'.heap.size)(e2:w''.os=w'.os)(e3:w''.tape=w'.tape)(e4:w''.output=w'.output)
 (hb:∀b,(∀D,({ target := .collected D,args:=#[] }:Deferred)∈a'.defers→b≠D)→w''.heap[b]? = w'.heap[b]?):ExtM m c w H c' w'' H':=by
 refine⟨h.f,h.imm,e2.trans h.os,e3.trans h.tape,e4.trans h.output,by rw[hs];exact h.size,fun b hlt hn=>(hb b fun D hm e=>?_).trans (h.other b hlt hn),h.newimm,h.own⟩
 obtain⟨ds,e5,h5⟩:=hg;rw[e5,List.append_nil] at hm;obtain⟨D',g1,g2⟩:=h5 _ hm
 injection g1 with g1
 injection g1 with g1
 omega
theorem yfq {f:FuncId}{fn:Func}{code:Code}{args:List AV}{Q:AE→Prop}(hE:EnvOK P E)(hf:P.funcs[f]? = some fn)(hb:fn.body=some code)(hn:fn.name ≠ "runtime.NumGoroutine")
 (hl:args.length<2 ^ 20)(h:SW P E false code (retK E fn Q) (St.init args fn.ntmps .nil 0)):PC P E f args Q:=by
 refine⟨⟨fn,hf,by rw[hb];rfl,hn⟩,fun c w vs hc hw hr=>?_⟩
 refine callsIn_wide.1 (callsIn_of_wp_marks (F:=Fence.wide) (n:=0) hf hb trivial (wpIn_mono (h none (fun _=>rfl) 0 (Nat.le_refl _) c _ w (Sim.init hr hw (fun k _=>hc k) hl)) ?_))
 rintro e a' w1 ⟨c',S',ax,h1,h2,h3,h4,h5⟩
 have hgd:=h1.gd
 replace h1:=h1.toExtM
 have hnoown:∀b,¬Own c (.nil:zah) b:=by rintro b ⟨k,o,B,hk,_⟩;cases hk
 
 let I:Nat→Prop:=fun b=>c'.imm b∨Own c' S'.heap b
 have hfin:∀w',ExtM 0 c w .nil c' w' S'.heap→WRel E.glob c' w' S'.heap→∀x v,Rel c' w' x v→∀y,snap S'.heap 20 x=some y→Ext c w .nil ⟨fun _=>none,I⟩ w' .nil∧WRel E.glob ⟨fun _=>none,I⟩ w' .nil∧Rel ⟨fun _=>none,I⟩ w' y v:=by
  intro w' h1 hw3 x v hr y hy;have hown:∀b,Own c' S'.heap b→w.heap.size≤b:=fun b hb=>(h1.own b hb).resolve_left (hnoown b)
  refine⟨⟨⟨fun k p e=>(by rw[hc k] at e;cases e),fun b hb => .inl (h1.imm b hb)⟩,h1.os,h1.tape,h1.output,h1.size,fun b hb _=>h1.other b hb (hnoown b),fun b hb=>?_,fun b hb=>(hnoown b (by obtain⟨k,o,B,hk,_⟩:=hb;cases hk)).elim⟩,?_,zdb hw3 (fun b hb => .inl hb) (fun b hb => .inr hb) 20 hr hy⟩
  · rcases hb with hb | hb
    · rcases h1.newimm b hb with g | g | g
      · exact .inl g
      · exact(hnoown b g).elim
      · exact .inr (.inr g)
    · exact .inr (.inr (hown b hb))
  · refine ⟨fun b hb => ?_, fun k B e => (by cases e), fun k o e => (by cases e), fun k k' o o' B B' e => (by cases e), fun g cs e => ?_⟩
    · rcases hb with hb | ⟨k, o, B, hk, hf', rfl⟩
      · exact hw3.imm_lt b hb
      · exact hw3.f_lt k B hf'
    · have := hw3.glob g cs e
      exact zdb hw3 (I:=I) (fun b hb => .inl hb) (fun b hb => .inr hb) 1 this rfl
 cases ax with
 | normal =>
   cases e<;>first|exact h4.elim|skip
   simp only[retK] at h5;cases hres:resA E fn S' with
   | none=>rw[hres] at h5;exact h5.elim
   | some x =>
     rw[hres] at h5;dsimp only at h5;cases hsn:snap S'.heap 20 x with
     | none=>rw[hsn] at h5;exact h5.elim
     | some y =>
       rw[hsn] at h5;refine zcw (by simp) h3.defers fun w' e1 e2 e3 e4 e5=>?_
       replace h1:=h1.shut hgd e1 e2 e3 e4 e5
       have hsh:=h3.shut e1 e5;have hrelS:∀{x v},Rel c' w1 x v→Rel c' w' x v:=hsh.2
       replace h3:=hsh.1
       obtain⟨v,hv,hrv⟩:=zhe hE h3 hres;obtain⟨g1,g2,g3⟩:=hfin w' h1 h3.wrel x v hrv y hsn;exact⟨v,hv,_,.ret y,g1,fun _=>rfl,g2,g3,h5⟩
 | ret =>
   cases e<;>first|exact h4.elim|skip
   simp only[retK] at h5;cases hres:resA E fn S' with
   | none=>rw[hres] at h5;exact h5.elim
   | some x =>
     rw[hres] at h5;dsimp only at h5;cases hsn:snap S'.heap 20 x with
     | none=>rw[hsn] at h5;exact h5.elim
     | some y =>
       rw[hsn] at h5;refine zcw (by simp) h3.defers fun w' e1 e2 e3 e4 e5=>?_
       replace h1:=h1.shut hgd e1 e2 e3 e4 e5
       have hsh:=h3.shut e1 e5;have hrelS:∀{x v},Rel c' w1 x v→Rel c' w' x v:=hsh.2
       replace h3:=hsh.1
       obtain⟨v,hv,hrv⟩:=zhe hE h3 hres;obtain⟨g1,g2,g3⟩:=hfin w' h1 h3.wrel x v hrv y hsn;exact⟨v,hv,_,.ret y,g1,fun _=>rfl,g2,g3,h5⟩
 | pan x =>
   cases e<;>first|exact h4.elim|skip
   obtain⟨v,rfl,hrv⟩:=h4;simp only[retK] at h5;cases hsn:snap S'.heap 20 x with
   | none=>rw[hsn] at h5;exact h5.elim
   | some y =>
     rw[hsn] at h5;refine zcw (by simp) h3.defers fun w' e1 e2 e3 e4 e5=>?_
     replace h1:=h1.shut hgd e1 e2 e3 e4 e5
     have hsh:=h3.shut e1 e5;have hrelS:∀{x v},Rel c' w1 x v→Rel c' w' x v:=hsh.2
     replace h3:=hsh.1
     obtain⟨g1,g2,g3⟩:=hfin w' h1 h3.wrel x v (hrelS hrv) y hsn;exact⟨_,.pan y,g1,fun _=>rfl,g2,⟨v,rfl,g3⟩,h5⟩
 | exit i=>cases e<;>first|exact h4.elim|exact h5.elim
 | goto i=>cases e<;>first|exact h4.elim|exact h5.elim
theorem yfx {f:FuncId}{fn:Func}{code:Code}{args:List AV}{nx:Nat}{R:AE→zah→Nat→Prop}(hE:EnvOK P E)(hf:P.funcs[f]? = some fn)(hb:fn.body=some code)(hn:fn.name ≠ "runtime.NumGoroutine")
 (hl:args.length<2 ^ 20)(h:SW P E false code (retH E fn R) (St.init args fn.ntmps H nx)):AC P E f args H nx R:=by
 refine⟨⟨fn,hf,by rw[hb];rfl,hn⟩,fun c w vs hw hc hr=>?_⟩
 refine callsIn_wide.1 (callsIn_of_wp_marks (F:=Fence.wide) (n:=0) hf hb trivial (wpIn_mono (h none (fun _=>rfl) nx (Nat.le_refl _) c _ w (Sim.init hr hw hc hl)) ?_))
 rintro e a' w1 ⟨c',S',ax,h1,h2,h3,h4,h5⟩
 have hgd:=h1.gd
 replace h1:=h1.toExtM
 cases ax with
 | normal =>
   cases e<;>first|exact h4.elim|skip
   simp only[retH] at h5;cases hres:resA E fn S' with
   | none=>rw[hres] at h5;exact h5.elim
   | some x =>
     rw[hres] at h5;refine zcw (by simp) h3.defers fun w' e1 e2 e3 e4 e5=>?_
     replace h1:=h1.shut hgd e1 e2 e3 e4 e5
     have hsh:=h3.shut e1 e5;have hrelS:∀{x v},Rel c' w1 x v→Rel c' w' x v:=hsh.2
     replace h3:=hsh.1
     obtain⟨v,hv,hrv⟩:=zhe hE h3 hres;exact⟨v,hv,c',S'.heap,S'.next,.ret x,h1,h3.wrel,h2,h3.fresh,hrv,h5⟩
 | ret =>
   cases e<;>first|exact h4.elim|skip
   simp only[retH] at h5;cases hres:resA E fn S' with
   | none=>rw[hres] at h5;exact h5.elim
   | some x =>
     rw[hres] at h5;refine zcw (by simp) h3.defers fun w' e1 e2 e3 e4 e5=>?_
     replace h1:=h1.shut hgd e1 e2 e3 e4 e5
     have hsh:=h3.shut e1 e5;have hrelS:∀{x v},Rel c' w1 x v→Rel c' w' x v:=hsh.2
     replace h3:=hsh.1
     obtain⟨v,hv,hrv⟩:=zhe hE h3 hres;exact⟨v,hv,c',S'.heap,S'.next,.ret x,h1,h3.wrel,h2,h3.fresh,hrv,h5⟩
 | pan x =>
   cases e<;>first|exact h4.elim|skip
   obtain⟨v,rfl,hrv⟩:=h4;refine zcw (by simp) h3.defers fun w' e1 e2 e3 e4 e5=>?_
   replace h1:=h1.shut hgd e1 e2 e3 e4 e5
   have hsh:=h3.shut e1 e5;have hrelS:∀{x v},Rel c' w1 x v→Rel c' w' x v:=hsh.2
   replace h3:=hsh.1
   exact⟨c',S'.heap,S'.next,.pan x,h1,h3.wrel,h2,h3.fresh,⟨v,rfl,hrelS hrv⟩,h5⟩
 | exit i=>cases e<;>first|exact h4.elim|exact h5.elim
 | goto i=>cases e<;>first|exact h4.elim|exact h5.elim
end
end Go.Ago
end
section
namespace Go.Ago
def zpm:AV→Bool
 | .any | .bool _ | .int _ _ | .str _ | .nilp | .nils | .empt | .nilm | .nilf | .nili=>true
 | _=>false
def znn:AV→Bool
 | .agg cs=>cs.all zpm
 | .ifc _ v=>zpm v
 | v=>zpm v
def zgv:AV→Bool
 | .rsl _ _ | .rptr _ | .rmp _=>true
 | v=>znn v
def AV.flat:AV→Bool
 | .tup cs=>cs.all znn
 | v=>znn v
def AE.flat:AE→Bool
 | .ret v | .pan v=>v.flat
section
variable {P:Program} {E:Env} {G:zd9} {c c':Ctx} {w w':World} {H:zah}
theorem zrf {x:AV}{v:Value}(h:Rel c w x v)(hx:zpm x=true):Rel c' w' x v:=by
 cases h<;>simp[zpm] at hx<;>constructor
theorem zre {f:AV→Bool}{xs:List AV}{vs:List Value}(hf:∀x v,Rel c w x v→f x=true→Rel c' w' x v)(h:RelL c w xs vs)(hx:xs.all f=true):RelL c' w' xs vs:=
 ⟨h.1,fun i x v e e'=>hf x v (h.2 i x v e e') (List.all_eq_true.1 hx x (List.mem_of_getElem? e))⟩
theorem zmk {x:AV}{v:Value}(h:Rel c w x v)(hx:znn x=true):Rel c' w' x v:=by
 cases h with
 | @agg _ _ cs vs hl hr =>
   have:=zre (c':=c') (w':=w') (fun _ _=>zrf) ⟨hl,hr⟩ hx
   exact .agg this.1 this.2
 | ifc t hy=>exact .ifc t (zrf hy hx)
 | any v=>exact .any v
 | bool b=>exact .bool b
 | int k n=>exact .int k n
 | str l=>exact .str l
 | nilp=>exact .nilp
 | nils=>exact .nils
 | empt a=>exact .empt a
 | emptn=>exact .emptn
 | nilm=>exact .nilm
 | nilf=>exact .nilf
 | nili=>exact .nili
 | _=>simp[znn,zpm] at hx
theorem zjb {x:AV}{v:Value}(hi:c'.imm=c.imm)(h:Rel c w x v)(hx:zgv x=true):Rel c' w x v:=by
 have hb:c'.bare=c.bare:=by unfold Ctx.bare;rw[hi]
 by_cases hr:(∃s es,x = .rsl s es)∨(∃cs,x = .rptr cs)∨∃es,x = .rmp es
 · rcases hr with ⟨s, es, rfl⟩ | ⟨cs, rfl⟩ | ⟨es, rfl⟩
   · cases h with
     | rsl vs h1 h2 h3 h4 h5=>exact .rsl vs h1 (by rw[hi];exact h2) h3 h4 (fun i j e x e1 e2=>by rw[hb];exact h5 i j e x e1 e2)
     | rnil=>exact .rnil s
   · cases h with
     | rptr h1 h2 h3 h4=>exact .rptr (by rw[hi];exact h1) h2 h3 (fun i x v e e'=>by rw[hb];exact h4 i x v e e')
   · cases h with
     | rmp f h1 h2 h3 h4 h5 h6 h7=>exact .rmp f (by rw[hi];exact h1) h2 h3 h4 h5 h6 (fun k x e=>by rw[hb];exact h7 k x e)
 · have : zgv x = znn x := by cases x <;> first | rfl | exact absurd (.inl ⟨_, _, rfl⟩) hr | exact absurd (.inr (.inl ⟨_, rfl⟩)) hr | exact absurd (.inr (.inr ⟨_, rfl⟩)) hr
   exact zmk h (by rw[← this];exact hx)
theorem zv3 {x:AV}{v:Value}(h:Rel c w x v)(hx:x.flat=true):Rel c' w' x v:=by
 by_cases ht:∃cs,x = .tup cs
 · obtain ⟨cs, rfl⟩ := ht
   cases h with
   | @tup _ _ _ vs hl hr =>
     have:=zre (c':=c') (w':=w') (fun _ _=>zmk) ⟨hl,hr⟩ hx
     exact .tup this.1 this.2
 · have : x.flat = znn x := by cases x <;> first | rfl | exact absurd ⟨_, rfl⟩ ht
   exact zmk h (by rw[← this];exact hx)
theorem zja {ae:AE}{e:Ending}(h:ERel c w ae e)(hx:ae.flat=true):ERel c' w' ae e:=by
 cases ae with
 | ret x=>cases e<;>first|exact h.elim|exact zv3 h hx
 | pan x =>
   cases e<;>first|exact h.elim|skip
   obtain⟨v,h1,h2⟩:=h;exact⟨v,h1,zv3 h2 hx⟩
theorem WRel.same (h:WRel G c w H){I:Nat→Prop}(hI:∀b,c.imm b→I b)(hlt:∀b,I b→b<w'.heap.size)(hown:∀b,b<w.heap.size→I b→c.imm b)(hs:w.heap.size≤w'.heap.size)(hb:∀b,b<w.heap.size→w'.heap[b]? = w.heap[b]?) :
 WRel G ⟨c.f,I⟩ w' H∧∀{x v},Rel c w x v→Rel ⟨c.f,I⟩ w' x v:=by
 have hrel:∀{x v},Rel c w x v→Rel ⟨c.f,I⟩ w' x v:=fun hr=>hr.mono ⟨fun _ _ e=>e,hI⟩ (fun b e=>hb b (h.imm_lt b e))
 refine⟨⟨hlt,fun k B e=>Nat.lt_of_lt_of_le (h.f_lt k B e) hs,fun k o e=>?_,h.inj,fun g cs e=>hrel (h.glob g cs e)⟩,hrel⟩
 obtain⟨B,h1,h2,h3⟩:=h.obj k o e;have hlt:=h.f_lt k B h1;exact⟨B,h1,fun hi=>h2 (hown _ hlt hi),h3.mono (hb _ hlt) hrel (fun b e=>⟨hI b e,hb b (h.imm_lt b e)⟩)⟩
theorem zeo {b:Nat}:¬Own c (.nil:zah) b:=by rintro⟨k,o,B,hk,_⟩;cases hk
theorem WRel.give (h:WRel G c w H):WRel G ⟨fun _=>none,fun b=>c.imm b∨Own c H b⟩ w .nil:=by
 refine⟨fun b hb=>?_,fun k B e=>(by cases e),fun k o e=>(by cases e),fun k k' o o' B B' e=>(by cases e),fun g cs e=>?_⟩
 · rcases hb with hb | ⟨k, o, B, hk, hf', rfl⟩
   · exact h.imm_lt b hb
   · exact h.f_lt k B hf'
 · exact zdb h (fun b hb => .inl hb) (fun b hb => .inr hb) 1 (h.glob g cs e) rfl
theorem AC.flat {g:FuncId}{args args':List AV}{nx:Nat}{Q:AE→Prop}{R:AE→zah→Nat→Prop}(hs:mapO (snap H 20) args=some args')(h:PC P E g args' Q)(hq:∀ae,Q ae→ae.flat=true∧R ae H nx) :
 AC P E g args H nx R:=by
 refine⟨h.1,fun c w vs hw hf hr=>?_⟩
 have hr':=zds (c':=⟨fun _=>none,fun b=>c.imm b∨Own c H b⟩) hs hr (fun x v y=>zdb hw (fun b hb => .inl hb) (fun b hb => .inr hb) 20)
 refine(h.2 ⟨fun _=>none,fun b=>c.imm b∨Own c H b⟩ w vs (fun _=>rfl) hw.give hr').mono ?_
 rintro e w' ⟨c',ae,h1,h2,h3,h4,h5⟩
 obtain⟨h6,h7⟩:=hq ae h5;have hb:∀b,b<w.heap.size→w'.heap[b]? = w.heap[b]?:=fun b hb=>h1.other b hb zeo
 obtain⟨g1,g2⟩:=hw.same (I:=c.imm) (w':=w') (fun b hb=>hb) (fun b hb=>Nat.lt_of_lt_of_le (hw.imm_lt b hb) h1.size) (fun b _ hb=>hb) h1.size hb
 exact⟨c,H,nx,ae,⟨fun _ _=>rfl,fun _ h=>h,h1.os,h1.tape,h1.output,h1.size,fun b hb' _=>hb b hb',fun b hb => .inl hb,fun b hb => .inl hb⟩,g1,Nat.le_refl _,hf,zja h4 h6,h7⟩
theorem WRel.empty (h:WRel G c w H):WRel G c.bare w .nil:=by
 refine⟨h.imm_lt,fun k B e=>(by cases e),fun k o e=>(by cases e),fun k k' o o' B B' e=>(by cases e),fun g cs e=>?_⟩
 have:=h.glob g cs e;cases this with
 | rptr hi hl hc hr=>exact .rptr hi hl hc hr
theorem WRel.noown (h:WRel G c w H):WRel G c w .nil:=
 ⟨h.imm_lt,h.f_lt,fun k o e=>(by cases e),fun k k' o o' B B' e=>(by cases e),h.glob⟩
theorem ydb {g:FuncId}{args args':List AV}{nx:Nat}{Q:AE→Prop}{R:AE→zah→Nat→Prop}(hs:mapO (snap .nil 20) args=some args')(h:PC P E g args' Q)(hq:∀ae,Q ae→R ae H nx) :
 AC P E g args H nx R:=by
 refine⟨h.1,fun c w vs hw hf hr=>?_⟩
 have hr':=zds (c':=c.bare) hs hr (fun x v y=>zdb hw.noown (fun b hb=>hb) (fun b hb=>(zeo hb).elim) 20)
 refine(h.2 c.bare w vs (fun _=>rfl) hw.empty hr').mono ?_
 rintro e w' ⟨c',ae,h1,h2,h3,h4,h5⟩
 have hb:∀b,b<w.heap.size→w'.heap[b]? = w.heap[b]?:=fun b hb=>h1.other b hb zeo
 have hnew:∀b,c'.imm b→c.imm b∨w.heap.size≤b:=fun b hb=>by
  rcases h1.newimm b hb with g|g|g
  · exact .inl g
  · exact(zeo g).elim
  · exact .inr g
 obtain⟨g1,g2⟩:=hw.same (I:=c'.imm) (w':=w') (fun b hb=>h1.le.imm b hb) (fun b hb=>h3.imm_lt b hb) (fun b hb hi=>(hnew b hi).resolve_right (by omega)) h1.size hb
 have hle:c'.le ⟨c.f,c'.imm⟩:=⟨fun k p e=>(by rw[h2 k] at e;cases e),fun _ h=>h⟩
 refine⟨⟨c.f,c'.imm⟩,H,nx,ae,⟨fun _ _=>rfl,fun b hb=>h1.le.imm b hb,h1.os,h1.tape,h1.output,h1.size,fun b hb' _=>hb b hb',fun b hb=>?_,fun b hb => .inl hb⟩,g1,Nat.le_refl _,hf,?_,hq ae h5⟩
 · rcases hnew b hb with g | g
   · exact .inl g
   · exact .inr (.inr g)
 · cases ae with
   | ret x=>cases e<;>first|exact h4.elim|exact Rel.mono h4 hle (fun _ _=>rfl)
   | pan x =>
     cases e<;>first|exact h4.elim|skip
     obtain⟨v,e1,e2⟩:=h4;exact⟨v,e1,e2.mono hle (fun _ _=>rfl)⟩
variable {rr:Bool}
theorem zlo {F:Fence}{n:Nat}{Q:Exit→Act→World→Prop}{a:Act}{w:World}{body:Code}(I:Nat→Act→World→Prop)(n0:Nat)(h0:I n0 a w)
 (round:∀n1 a w,I n1 a w→body.wpIn F n P (Exit.then (fun a' w'=>∃n',n'<n1∧I n' a' w') Q) a w):(Code.loop body).wpIn F n P Q a w:=by
 refine wpIn_loop (fun a w=>∃n,I n a w) (fun a w=>leastOf (fun n=>I n a w)) ⟨n0,h0⟩ ?_
 intro a w hI;refine wpIn_mono (round _ a w (leastOf_spec hI).1) ?_;intro e a' w' hq;cases e with
 | normal =>
   obtain⟨n',hlt,hI'⟩:=hq;exact show(∃n,I n a' w')∧leastOf (fun n=>I n a' w')<leastOf (fun n=>I n a w) from⟨⟨n',hI'⟩,Nat.lt_of_le_of_lt ((leastOf_spec ⟨n',hI'⟩).2 n' hI') hlt⟩
 | exit id=>exact hq
 | goto l=>exact hq
 | ret=>exact hq
 | panic ch=>exact hq
 | outgrown=>exact hq
end
end Go.Ago
end
namespace Go.Ago
def Rd.rds (H:zah):Rd→List Nat
 | .rd k f => match H.get k with
   | some o=>k::(f o).rds H
   | none=>[k]
 | .req b r => match b with
   | true=>r.rds H
   | false=>[]
 | .br b r s => match b with
   | true=>r.rds H
   | false=>s.rds H
 | .opt o f => match o with
   | some e=>(f e).rds H
   | none=>[]
 | _=>[]
theorem Rd.run_local {H H':zah}:∀{r:Rd},(∀k∈r.rds H,H'.get k=H.get k)→r.run H'=r.run H
 | .ret _,_=>rfl
 | .pan _,_=>rfl
 | .fail,_=>rfl
 | .rd k f, h => by
   simp only[rds] at h;simp only[run];cases e:H.get k with
   | none=>rw[e] at h;rw[h k (by simp),e]
   | some o =>
     rw[e] at h;rw[h k (by simp),e]
     exact run_local fun j hj=>h j (by simp[hj])
 | .req b r, h => by
   cases b with
   | true=>exact run_local (r:=r) h
   | false=>rfl
 | .br b r s, h => by
   cases b with
   | true=>exact run_local (r:=r) h
   | false=>exact run_local (r:=s) h
 | .opt o f, h => by
   cases o with
   | some e=>exact run_local (r:=f e) h
   | none=>rfl
theorem Rd.rds_local {H H':zah}:∀{r:Rd},(∀k∈r.rds H,H'.get k=H.get k)→r.rds H'=r.rds H
 | .ret _,_=>rfl
 | .pan _,_=>rfl
 | .fail,_=>rfl
 | .rd k f, h => by
   simp only[rds] at h ⊢;cases e:H.get k with
   | none=>rw[e] at h;rw[h k (by simp),e]
   | some o =>
     rw[e] at h;rw[h k (by simp),e]
     dsimp only;rw[rds_local fun j hj=>h j (by simp[hj])]
 | .req b r, h => by
   cases b with
   | true=>exact rds_local (r:=r) h
   | false=>rfl
 | .br b r s, h => by
   cases b with
   | true=>exact rds_local (r:=r) h
   | false=>exact rds_local (r:=s) h
 | .opt o f, h => by
   cases o with
   | some e=>exact rds_local (r:=f e) h
   | none=>rfl
def Rd.holdsR (H:zah)(K:Eff→List Nat→Prop):Rd→List Nat→Prop
 | .ret e,l=>K e l
 | .pan _,_=>False
 | .rd k f, l => match H.get k with
   | some o=>(f o).holdsR H K (k::l)
   | none=>False
 | .req b r,l=>b=true∧r.holdsR H K l
 | .br b r s,l=>(b=true→r.holdsR H K l)∧(b=false→s.holdsR H K l)
 | .opt o f,l=>∃e,o=some e∧(f e).holdsR H K l
 | .fail,_=>False
theorem Rd.holdsR_run {H:zah}{K:Eff→List Nat→Prop}:∀{r:Rd} {l:List Nat},r.holdsR H K l→∃e l',r.run H=some (.inl e)∧(∀k∈r.rds H,k∈l')∧(∀k∈l,k∈l')∧K e l'
 | .ret e,l,h=>⟨e,l,rfl,by simp[rds],fun _ h=>h,h⟩
 | .pan _,_,h=>h.elim
 | .rd k f, l, h => by
   simp only[holdsR] at h;simp only[run,rds];cases e:H.get k with
   | none=>rw[e] at h;exact h.elim
   | some o =>
     rw[e] at h;obtain⟨e',l',h1,h2,h3,h4⟩:=holdsR_run h;exact⟨e',l',h1,fun j hj=>by
      rcases List.mem_cons.1 hj with rfl|hj
      · exact h3 _ (by simp)
      · exact h2 j hj,fun j hj=>h3 j (by simp[hj]),h4⟩
 | .req b r, l, h => by
   obtain⟨rfl,h⟩:=h;exact holdsR_run (r:=r) h
 | .br b r s, l, h => by
   cases b with
   | true=>exact holdsR_run (r:=r) (h.1 rfl)
   | false=>exact holdsR_run (r:=s) (h.2 rfl)
 | .opt o f, l, h => by
   obtain⟨e,rfl,h⟩:=h;exact holdsR_run (r:=f e) h
 | .fail,_,h=>h.elim
def sids (H:zah):Nat→AV→List Nat
 | 0,_=>[]
 | n + 1, v => match v with
   | .ptr k i off => k :: match H.get k with
     | some (.arr _ es) => match es[i]? with
       | some e=>(e.drop off).flatMap (sids H n)
       | none=>[]
     | _=>[]
   | .slc k i len _ => k :: match H.get k with
     | some (.arr _ es)=>((es.drop i).take len).flatMap fun e=>e.flatMap (sids H n)
     | _=>[]
   | .mpo k => k :: match H.get k with
     | some (.mp es)=>es.flatMap fun p=>sids H n p.2
     | _=>[]
   | .fn _ xs ys=>xs.flatMap (sids H n)++ys.flatMap (sids H n)
   | .ifc _ v=>sids H n v
   | .agg cs | .tup cs=>cs.flatMap (sids H n)
   | _=>[]
theorem zfi {α β:Type}{f g:α→Option β}:∀{l:List α},(∀x∈l,f x=g x)→mapO f l=mapO g l
 | [],_=>rfl
 | x :: l, h => by
   simp only[mapO];rw[h x (by simp),zfi fun y hy=>h y (by simp[hy])]
theorem zns {H H':zah}:∀(n:Nat) {x:AV},(∀k∈sids H n x,H'.get k=H.get k)→snap H' n x=snap H n x
 | 0,_,_=>rfl
 | n + 1, x, h => by
   have ih:∀x,(∀k∈sids H n x,H'.get k=H.get k)→snap H' n x=snap H n x:=fun x h=>zns n h
   have ihl:∀l:List AV,(∀k∈l.flatMap (sids H n),H'.get k=H.get k)→mapO (snap H' n) l=mapO (snap H n) l:=fun l h=>
    zfi fun x hx=>ih x fun k hk=>h k (List.mem_flatMap.2 ⟨x,hx,hk⟩)
   cases x with
   | ptr k i off =>
     simp only[sids] at h;simp only[snap];rw[h k (by simp)]
     cases e:H.get k with
     | none=>rfl
     | some o =>
       cases o with
       | sit _ _=>rfl
       | lp _ _ _ _ _=>rfl
       | mp _=>rfl
       | mit _ _=>rfl
       | arr sz es =>
         rw[e] at h;dsimp only;cases e2:es[i]? with
         | none=>rfl
         | some el =>
           dsimp only at h;rw[e2] at h;dsimp only;rw[ihl _ fun j hj=>h j (by simp[hj])]
   | slc k i len sz =>
     simp only[sids] at h;simp only[snap];rw[h k (by simp)]
     cases e:H.get k with
     | none=>rfl
     | some o =>
       cases o with
       | sit _ _=>rfl
       | lp _ _ _ _ _=>rfl
       | mp _=>rfl
       | mit _ _=>rfl
       | arr sz' es =>
         rw[e] at h;dsimp only;have:mapO (mapO (snap H' n)) ((es.drop i).take len)=mapO (mapO (snap H n)) ((es.drop i).take len):=
          zfi fun el hel => ihl el fun j hj => h j (by
           rw[List.mem_cons];right;exact List.mem_flatMap.2 ⟨el,hel,hj⟩)
         rw[this]
   | mpo k =>
     simp only[sids] at h;simp only[snap];rw[h k (by simp)]
     cases e:H.get k with
     | none=>rfl
     | some o =>
       cases o with
       | sit _ _=>rfl
       | lp _ _ _ _ _=>rfl
       | arr _ _=>rfl
       | mit _ _=>rfl
       | mp es =>
         rw[e] at h;dsimp only;have:mapO (entK (snap H' n)) es=mapO (entK (snap H n)) es:=
          zfi fun p hp=>by unfold entK;rw[ih p.2 fun j hj=>h j (by rw[List.mem_cons];right;exact List.mem_flatMap.2 ⟨p,hp,hj⟩)]
         rw[this]
   | fn f xs ys =>
     simp only[sids] at h;simp only[snap];rw[ihl xs fun j hj=>h j (by simp only[List.mem_append];exact .inl hj),ihl ys fun j hj=>h j (by simp only[List.mem_append];exact .inr hj)]
   | ifc t v=>simp only[snap];rw[ih v h]
   | agg cs=>simp only[snap];rw[ihl cs h]
   | tup cs=>simp only[snap];rw[ihl cs h]
   | _=>rfl
theorem zd4 {α β:Type}{f g:α→List β}:∀{l:List α},(∀x∈l,f x=g x)→l.flatMap f=l.flatMap g
 | [],_=>rfl
 | x :: l, h => by
   rw[List.flatMap_cons,List.flatMap_cons,h x (by simp),zd4 fun y hy=>h y (by simp[hy])]
theorem zg9 {H H':zah}:∀(n:Nat) {x:AV},(∀k∈sids H n x,H'.get k=H.get k)→sids H' n x=sids H n x
 | 0,_,_=>rfl
 | n + 1, x, h => by
   have ihl:∀l:List AV,(∀k∈l.flatMap (sids H n),H'.get k=H.get k)→l.flatMap (sids H' n)=l.flatMap (sids H n):=fun l h=>
    zd4 fun x hx=>zg9 n fun k hk=>h k (List.mem_flatMap.2 ⟨x,hx,hk⟩)
   cases x with
   | ptr k i off =>
     simp only[sids] at h ⊢;rw[h k (by simp)]
     cases e:H.get k with
     | none=>rfl
     | some o =>
       cases o with
       | sit _ _=>rfl
       | lp _ _ _ _ _=>rfl
       | mp _=>rfl
       | mit _ _=>rfl
       | arr sz es =>
         rw[e] at h;dsimp only at h ⊢;cases e2:es[i]? with
         | none=>rfl
         | some el =>
           rw[e2] at h;dsimp only;rw[ihl _ fun j hj=>h j (by simp[hj])]
   | slc k i len sz =>
     simp only[sids] at h ⊢;rw[h k (by simp)]
     cases e:H.get k with
     | none=>rfl
     | some o =>
       cases o with
       | sit _ _=>rfl
       | lp _ _ _ _ _=>rfl
       | mp _=>rfl
       | mit _ _=>rfl
       | arr sz' es =>
         rw[e] at h;dsimp only;have:(((es.drop i).take len).flatMap fun e=>e.flatMap (sids H' n))=((es.drop i).take len).flatMap fun e=>e.flatMap (sids H n):=
          zd4 fun el hel => ihl el fun j hj => h j (by
           rw[List.mem_cons];right;exact List.mem_flatMap.2 ⟨el,hel,hj⟩)
         rw[this]
   | mpo k =>
     simp only[sids] at h ⊢;rw[h k (by simp)]
     cases e:H.get k with
     | none=>rfl
     | some o =>
       cases o with
       | sit _ _=>rfl
       | lp _ _ _ _ _=>rfl
       | arr _ _=>rfl
       | mit _ _=>rfl
       | mp es =>
         rw[e] at h;dsimp only at h ⊢;have:(es.flatMap fun p=>sids H' n p.2)=es.flatMap fun p=>sids H n p.2:=
          zd4 fun p hp=>zg9 n fun j hj=>h j (by rw[List.mem_cons];right;exact List.mem_flatMap.2 ⟨p,hp,hj⟩)
         rw[this]
   | fn f xs ys =>
     simp only[sids] at h ⊢;rw[ihl xs fun j hj=>h j (by simp only[List.mem_append];exact .inl hj),ihl ys fun j hj=>h j (by simp only[List.mem_append];exact .inr hj)]
   | ifc t v=>simp only[sids] at h ⊢;exact zg9 n h
   | agg cs=>simp only[sids] at h ⊢;exact ihl cs h
   | tup cs=>simp only[sids] at h ⊢;exact ihl cs h
   | _=>rfl
def befs:List Oper→List Nat→List Nat
 | [],acc=>acc
 | o::l,acc=>befs l (acc++[o.after.toList.foldl (fun s e=>bif Region.binds .any e then s ||| 2 ^ e.on ||| acc.getD e.on 0 else s) 0])
inductive Reach (ops:Array Oper):Nat→Nat→Prop where
 | one {i:Nat} {o:Oper} {e:Edge} (ho:ops[i]? = some o) (he:e∈o.after) (hb:Region.binds .any e=true):Reach ops i e.on
 | more {i j:Nat} {o:Oper} {e:Edge} (ho:ops[i]? = some o) (he:e∈o.after) (hb:Region.binds .any e=true) (h:Reach ops e.on j):Reach ops i j
theorem zom {ops:Array Oper}:∀(l:List Oper) (acc:List Nat),ops.toList=ops.toList.take acc.length++l→(∀(i:Nat) b,acc[i]? = some b→∀j,b.testBit j=true→Reach ops i j) →
 ∀(i:Nat) b,(befs l acc)[i]? = some b→∀j,b.testBit j=true→Reach ops i j
 | [],acc,_,h=>h
 | o :: l, acc, hops, h => by
   have hlen:acc.length<ops.size:=by
    have:=congrArg List.length hops;simp at this;omega
   have ho:ops[acc.length]? = some o:=by
    have h1:ops.toList[acc.length]? = some o:=by
     rw[hops,List.getElem?_append_right (by simp;omega)]
     simp;rw[show acc.length - min acc.length ops.size=0 by omega]
     rfl
    simpa using h1
   refine zom l _ ?_ ?_
   · simp only [List.length_append, List.length_cons, List.length_nil]
     have:ops.toList.take (acc.length+1)=ops.toList.take acc.length++[o]:=by
      rw[List.take_add_one];have:ops.toList[acc.length]? = some o:=by simpa using ho
      rw[this];rfl
     rw[this,List.append_assoc];exact hops
   · intro i b hb j hj
     by_cases hi:i<acc.length
     · rw[List.getElem?_append_left hi] at hb;exact h i b hb j hj
     · rw [List.getElem?_append_right (by omega)] at hb
       have hi':i=acc.length:=by
        rcases Nat.lt_or_ge (i - acc.length) 1 with h1|h1
        · omega
        · rw[List.getElem?_eq_none (by simpa using h1)] at hb;cases hb
       subst hi';simp only[Nat.sub_self,List.getElem?_cons_zero,Option.some.injEq] at hb;subst hb;have key:∀(es:List Edge) (s:Nat),(∀e∈es,e∈o.after)→(∀j,s.testBit j=true→Reach ops acc.length j) →
        ∀j,(es.foldl (fun s e=>bif Region.binds .any e then s ||| 2 ^ e.on ||| acc.getD e.on 0 else s) s).testBit j=true→Reach ops acc.length j:=by
        intro es
        induction es with
        | nil=>intro s _ hs j hj;exact hs j hj
        | cons e es ih =>
          intro s hes hs j hj;refine ih _ (fun e' he'=>hes e' (by simp[he'])) (fun j hj=>?_) j hj
          dsimp only at hj;cases hb:Region.binds .any e with
          | false=>rw[hb] at hj;exact hs j hj
          | true =>
            rw[hb] at hj;simp only[cond_true,Nat.testBit_or,Bool.or_eq_true,Nat.testBit_two_pow,decide_eq_true_eq] at hj;have hea:=hes e (by simp)
            rcases hj with(hj|hj)|hj
            · exact hs j hj
            · subst hj;exact .one ho hea hb
            · cases hg : acc[e.on]? with
              | none=>rw[List.getD_eq_getElem?_getD,hg] at hj;simp at hj
              | some b' =>
                rw[List.getD_eq_getElem?_getD,hg] at hj;exact .more ho hea hb (h e.on b' hg j hj)
       exact key o.after.toList 0 (fun e he=>by simpa using he) (fun j hj=>by simp at hj) j hj
def comp (masks:List Nat)(i j:Nat):Bool:=(masks.getD i 0).testBit j || (masks.getD j 0).testBit i
theorem zj3 {ops:Array Oper}{i j:Nat}(h:comp (befs ops.toList []) i j=true):Reach ops i j∨Reach ops j i:=by
 have hs:=zom (ops:=ops) ops.toList [] (by simp) (fun i b hb=>by simp at hb)
 simp only[comp,Bool.or_eq_true] at h;have key:∀i j,((befs ops.toList []).getD i 0).testBit j=true→Reach ops i j:=by
  intro i j h;rw[List.getD_eq_getElem?_getD] at h;cases hg:(befs ops.toList [])[i]? with
  | none=>rw[hg] at h;simp at h
  | some b=>rw[hg] at h;exact hs i b hg j h
 exact h.ip (key i j) (key j i)
def zgy:List Oper→Nat→Bool
 | [],_=>true
 | o::l,i=>o.after.toList.all (fun e=>!Region.binds .any e || Nat.blt e.on i) && zgy l (i+1)
def zo1 (ops:Array Oper)(masks:List Nat):Bool:=
 (List.range ops.size).all fun i=>(List.range ops.size).all fun j=>i == j || comp masks i j ||
  (match ops[i]?, ops[j]? with
   | some x, some y => match x.dst with
     | some d=>!(Oper.looksAt ops y).contains d && y.dst != some d
     | none=>true
   | _,_=>true)
end Go.Ago
section
namespace Go.Ago
structure DE where
 val:AV
 up:List (Nat×Option AObj)
 rds:List Nat
def DE.keys (d:DE):List Nat:=d.up.map (·.1)
section order
variable {V:Type}
def zdm (wv:Nat→Option V)(D:Nat→Bool):Nat→V→V
 | 0,v=>v
 | n+1,v=>if D n then (match wv n with|some x=>x|none=>zdm wv D n v) else zdm wv D n v
theorem zd7 {wv:Nat→Option V}{D D':Nat→Bool}:∀(n:Nat) (v:V),(∀j,j<n→wv j≠none→D j=D' j)→zdm wv D n v=zdm wv D' n v
 | 0,_,_=>rfl
 | n + 1, v, h => by
   simp only[zdm];rw[zd7 n v fun j hj=>h j (by omega)]
   cases hw:wv n with
   | none=>cases D n<;>cases D' n<;>rfl
   | some x=>rw[h n (by omega) (by rw[hw];simp)]
theorem zfk {wv:Nat→Option V}{D:Nat→Bool}{i:Nat}:∀(n:Nat) (v:V),i<n→(∀j,i<j→j<n→D j=true→wv j≠none→wv i=none) →
 zdm wv (fun j=>j == i || D j) n v=match wv i with|some x=>x|none=>zdm wv D n v
 | 0,_,h,_=>by omega
 | n + 1, v, h, hc => by
   by_cases hn:i=n
   · subst hn
     simp only[zdm,beq_self_eq_true,Bool.true_or,if_true];have:zdm wv (fun j=>j == i || D j) i v=zdm wv D i v:=zd7 i v fun j hj _=>by
      have:(j == i)=false:=by simpa using Nat.ne_of_lt hj
      rw[this];rfl
     rw[this];cases hw:wv i with
     | some x=>rfl
     | none=>simp
   · have hlt : i < n := by omega
     have ih:=zfk (wv:=wv) (D:=D) n v hlt fun j h1 h2=>hc j h1 (by omega)
     have hni:(n == i)=false:=by simpa using Ne.symm hn
     simp only[zdm,hni,Bool.false_or];rw[ih]
     by_cases hD:D n=true
     · simp only [hD, if_true]
       cases hw:wv n with
       | none=>rfl
       | some x =>
         have:=hc n hlt (by omega) hD (by rw[hw];simp)
         rw[this]
     · simp only[hD,Bool.false_eq_true,if_false]
theorem zi1 {wv:Nat→Option V}{D:Nat→Bool}{i:Nat}(n:Nat)(v:V)(hi:D i=false)(h:∀j,j<n→j≠i→wv j≠none→D j=Nat.blt j i):zdm wv D n v=zdm wv (fun j=>Nat.blt j i) n v:=
 zd7 n v fun j hj hw=>by
  by_cases e:j=i
  · subst e
    rw[hi];cases hb:Nat.blt j j with
    | false=>rfl
    | true=>simp at hb
  · exact h j hj e hw
end order
def putS (ops:Array Oper)(ds:List DE)(t:Nat)(i:Nat):Option (Option AV):=
 match ops[i]?,ds[i]? with
 | some o,some d=>if o.dst=some t then some (some d.val) else none
 | _,_=>none
def znd:List (Nat×Option AObj)→Nat→Option (Option AObj)
 | [],_=>none
 | (j, o) :: l, k => match znd l k with
   | some x=>some x
   | none=>if j=k then some o else none
def putH (ds:List DE)(k:Nat)(i:Nat):Option (Option AObj):=
 match ds[i]? with
 | some d=>znd d.up k
 | none=>none
theorem zso:∀(l:List (Nat×Option AObj)) (H:zah) (k:Nat),(∀p∈l,p.1+1<2 ^ 24)→(Eff.upd H l).get k=match znd l k with|some o=>o|none=>H.get k
 | [],H,k,_=>rfl
 | (j, o) :: l, H, k, h => by
   simp only[Eff.upd,znd];rw[zso l _ k fun p hp=>h p (by simp[hp])]
   cases znd l k with
   | some x=>rfl
   | none =>
     rw[Tr.get_set 24 j o H k (h (j,o) (by simp))]
     by_cases e:k=j
     · subst e;simp
     · rw[if_neg e,if_neg (Ne.symm e)]
theorem zg6:∀{l:List (Nat×Option AObj)} {k:Nat},znd l k≠none→k∈l.map (·.1)
 | [],k,h=>absurd rfl h
 | (j, o) :: l, k, h => by
   simp only[znd] at h;cases e:znd l k with
   | some x=>exact List.mem_cons_of_mem _ (zg6 (by rw[e];simp))
   | none =>
     rw[e] at h
     by_cases ej:j=k
     · subst ej;simp
     · simp[ej] at h
structure At (ops:Array Oper)(ds:List DE)(S0:St)(D:Nat→Bool)(S:St):Prop where
 nsl:S.nsl=S0.nsl
 next:S.next=S0.next
 slots:∀t,S.slots.get t=zdm (putS ops ds t) D ops.size (S0.slots.get t)
 heap:∀k,S.heap.get k=zdm (putH ds k) D ops.size (S0.heap.get k)
theorem zid {V:Type}{wv:Nat→Option V}:∀(n:Nat) (v:V),zdm wv (fun _=>false) n v=v
 | 0,_=>rfl
 | n+1,v=>by simp only[zdm,Bool.false_eq_true,if_false];exact zid n v
theorem At.start (ops:Array Oper)(ds:List DE)(S0:St):At ops ds S0 (fun _=>false) S0:=⟨rfl,rfl,fun _=>(zid _ _).symm,fun _=>(zid _ _).symm⟩
def St.app (S:St)(o:Oper)(d:DE):St:=S.put o.dst d.val (Eff.upd S.heap d.up) S.next
theorem zr3 {S:St}{o:Oper}{d:DE}(hd:zbw S o.dst=true)(t:Nat):(S.app o d).slots.get t=if o.dst=some t then some d.val else S.slots.get t:=by
 unfold St.app St.put;cases h:o.dst with
 | none=>simp
 | some e =>
   rw[h] at hd;simp only[zbw,Bool.and_eq_true] at hd;have h24:(e+1:Nat)<2 ^ 24:=Nat.lt_of_lt_of_le (Nat.lt_succ_self (e+1)) (Nat.le_trans (Nat.le_of_ble_eq_true hd.2) (by decide))
   dsimp only;rw[Tr.get_set 24 e _ _ t h24]
   by_cases et:t=e
   · subst et;simp
   · rw[if_neg et,if_neg (fun h=>et (Option.some.inj h).symm)]
structure Free (ops:Array Oper)(ds:List DE):Prop where
 len:ds.length=ops.size
 small:∀(i:Nat) d,ds[i]? = some d→∀p∈d.up,p.1+1<2 ^ 24
 slot:∀(i j:Nat) x y t,ops[i]? = some x→ops[j]? = some y→i≠j→x.dst=some t→(t∈Oper.looksAt ops y∨y.dst=some t)→Reach ops i j∨Reach ops j i
 mem:∀(i j:Nat) d e k,ds[i]? = some d→ds[j]? = some e→i≠j→k∈d.keys→(k∈e.rds∨k∈e.keys)→Reach ops i j∨Reach ops j i
 back:∀i j,Reach ops i j→j<i
def yc8 (ops:Array Oper)(D:Nat→Bool):Prop:=∀i j,Reach ops i j→D i=true→D j=true
section
variable {ops:Array Oper} {ds:List DE} {S0 S:St} {D:Nat→Bool} {i:Nat} {o:Oper} {d:DE}
theorem At.step (hF:Free ops ds)(hC:yc8 ops D)(hA:At ops ds S0 D S)(hi:D i=false)(ho:ops[i]? = some o)(hd:ds[i]? = some d)(hdst:zbw S o.dst=true) :
 At ops ds S0 (fun j=>j == i || D j) (S.app o d):=by
 have hin:i<ops.size:=(Array.getElem?_eq_some_iff.1 ho).1;have hno:∀j,i<j→D j=true→¬(Reach ops i j∨Reach ops j i):=by
  intro j hj hDj h;rcases h with h|h
  · have:=hF.back i j h;omega
  · have:=hC j i h hDj;rw[hi] at this;cases this
 refine⟨hA.nsl,hA.next,fun t=>?_,fun k=>?_⟩
 · rw [zr3 hdst, zfk ops.size _ hin, ← hA.slots t]
   · simp only [putS, ho, hd]
     by_cases e:o.dst=some t<;>simp[e]
   · intro j hj hjn hDj hw
     cases hwi:putS ops ds t i with
     | none=>rfl
     | some x =>
       exfalso
       simp only[putS,ho,hd] at hwi;have e1:o.dst=some t:=by
        by_cases e:o.dst=some t
        · exact e
        · simp[e] at hwi
       have hoj:ops[j]? = some ops[j]:=Array.getElem?_eq_getElem hjn;have e2:ops[j].dst=some t:=by
        simp only[putS,hoj] at hw;cases hdj:ds[j]? with
        | none=>rw[hdj] at hw;exact absurd rfl hw
        | some dj =>
          rw[hdj] at hw
          by_cases e:ops[j].dst=some t
          · exact e
          · simp[e] at hw
       exact hno j hj hDj (hF.slot i j o _ t ho hoj (by omega) e1 (.inr e2))
 · show (Eff.upd S.heap d.up).get k = _
   rw[zso _ _ _ (hF.small i d hd),zfk ops.size _ hin,← hA.heap k]
   · simp only [putH, hd]
     cases znd d.up k<;>rfl
   · intro j hj hjn hDj hw
     cases hwi:putH ds k i with
     | none=>rfl
     | some x =>
       exfalso
       simp only[putH,hd] at hwi;cases hdj:ds[j]? with
       | none=>simp only[putH,hdj] at hw;exact absurd rfl hw
       | some dj =>
         simp only[putH,hdj] at hw;exact hno j hj hDj (hF.mem i j d dj k hd hdj (by omega) (zg6 (by rw[hwi];simp)) (.inr (zg6 hw)))
theorem At.agree {Si:St}(hF:Free ops ds)(hC:yc8 ops D)(hA:At ops ds S0 D S)(hi:D i=false)(hpre:∀j,Reach ops i j→D j=true)(ho:ops[i]? = some o)(hd:ds[i]? = some d)
 (hSi:At ops ds S0 (fun j=>Nat.blt j i) Si):(∀t∈Oper.looksAt ops o,S.slots.get t=Si.slots.get t)∧(∀k∈d.rds,S.heap.get k=Si.heap.get k):=by
 have hcmp:∀j,j≠i→(Reach ops j i∨Reach ops i j)→D j=Nat.blt j i:=by
  intro j hj h;rcases h with h|h
  · have hlt := hF.back j i h
    have h1:Nat.blt j i=false:=by
     cases hb:Nat.blt j i with
     | false=>rfl
     | true => have : j < i := by simpa using hb
               omega
    rw[h1];cases hD:D j with
    | false=>rfl
    | true=>have:=hC j i h hD;rw[hi] at this;cases this
  · have hlt := hF.back i j h
    rw[hpre j h]
    symm;simpa using hlt
 refine⟨fun t ht=>?_,fun k hk=>?_⟩
 · rw [hA.slots t, hSi.slots t]
   refine zi1 ops.size _ hi fun j hj hji hw=>hcmp j hji ?_
   have hoj:ops[j]? = some ops[j]:=Array.getElem?_eq_getElem hj;have e2:ops[j].dst=some t:=by
    simp only[putS,hoj] at hw;cases hdj:ds[j]? with
    | none=>rw[hdj] at hw;exact absurd rfl hw
    | some dj =>
      rw[hdj] at hw
      by_cases e:ops[j].dst=some t
      · exact e
      · simp[e] at hw
   exact hF.slot j i _ o t hoj ho hji e2 (.inl ht)
 · rw [hA.heap k, hSi.heap k]
   refine zi1 ops.size _ hi fun j hj hji hw=>hcmp j hji ?_
   cases hdj:ds[j]? with
   | none=>simp only[putH,hdj] at hw;exact absurd rfl hw
   | some dj =>
     simp only[putH,hdj] at hw;exact hF.mem j i dj d k hdj hd hji (zg6 hw) (.inl hk)
theorem At.congr {D':Nat→Bool}(hA:At ops ds S0 D S)(h:∀j,j<ops.size→D j=D' j):At ops ds S0 D' S:=
 ⟨hA.nsl,hA.next,fun t=>(hA.slots t).trans (zd7 _ _ fun j hj _=>h j hj),fun k=>(hA.heap k).trans (zd7 _ _ fun j hj _=>h j hj)⟩
end
end Go.Ago
end
section
namespace Go.Ago
section
variable {P:Program} {E:Env} {G:zd9} {c c1:Ctx} {w w':World} {H H1:zah}
theorem WRel.adopt (hw:WRel G c w H){nm K0 sz:Nat}{es:List (List AV)}(hnm:c.f nm=none)(hnm24:nm+1<2 ^ 24)(h1:ExtM 0 c.bare w .nil c1 w' H1)(h2:WRel G c1 w' H1)(hk:H1.get K0=some (.arr sz es))
 (hfl:∀(i:Nat) e,es[i]? = some e→∀(j:Nat) x,e[j]? = some x→zgv x=true) :
 ∃c' B,c1.f K0=some B∧c'.f nm=some B∧(∀k,k≠nm→c'.f k=c.f k)∧(∀m,m≤nm→ExtM m c w H c' w' (H.set 24 nm (some (.arr sz es))))∧WRel G c' w' (H.set 24 nm (some (.arr sz es))):=by
 obtain⟨B,hB,hBi,hBo⟩:=h2.obj K0 _ hk;have hBge:w.heap.size≤B.b:=by
  rcases h1.own B.b ⟨K0,_,B,hk,hB,rfl⟩ with g|g
  · exact(zeo g).elim
  · exact g
 have hb:∀b,b<w.heap.size→w'.heap[b]? = w.heap[b]?:=fun b hb=>h1.other b hb zeo
 have hnew:∀b,c1.imm b→c.imm b∨w.heap.size≤b:=fun b hb=>by
  rcases h1.newimm b hb with g|g|g
  · exact .inl g
  · exact(zeo g).elim
  · exact .inr g
 let c':Ctx:=⟨fun k=>if k=nm then some B else c.f k,c1.imm⟩
 have hle:c.le c':=⟨fun k p e=>by
  show(if k=nm then some B else c.f k)=some p
  by_cases hkn:k=nm
  · subst hkn;rw[hnm] at e;cases e
  · rw[if_neg hkn];exact e,fun b hb=>h1.imm b hb⟩
 have hrel:∀{x v},Rel c w x v→Rel c' w' x v:=fun hr=>hr.mono hle (fun b e=>hb b (hw.imm_lt b e))
 have hnmf:c'.f nm=some B:=if_pos rfl;have hoth:∀k,k≠nm→c'.f k=c.f k:=fun k hk=>if_neg hk
 have hget:∀k,(H.set 24 nm (some (.arr sz es))).get k=if k=nm then some (.arr sz es) else H.get k:=fun k=>Tr.get_set 24 nm _ H k hnm24
 refine⟨c',B,hB,hnmf,hoth,fun m hm=>⟨fun k hk=>hoth k (by omega),fun b hb=>h1.imm b hb,h1.os,h1.tape,h1.output,h1.size,fun b hlt _=>hb b hlt,fun b hbi=>?_,?_⟩,⟨h2.imm_lt,fun k B' e=>?_,fun k o e=>?_,fun k k' o o' B1 B2 e e' f f' he=>?_,fun g cs e=>hrel (hw.glob g cs e)⟩⟩
 · rcases hnew b hbi with g | g
   · exact .inl g
   · exact .inr (.inr g)
 · rintro b ⟨k, o, B', e, f, rfl⟩
   by_cases hkn:k=nm
   · subst hkn;rw[hnmf] at f;cases f;exact .inr hBge
   · rw[hget,if_neg hkn] at e;rw[hoth k hkn] at f;exact .inl ⟨k,o,B',e,f,rfl⟩
 · by_cases hkn : k = nm
   · subst hkn;rw[hnmf] at e;cases e;exact h2.f_lt K0 B hB
   · rw[hoth k hkn] at e;exact Nat.lt_of_lt_of_le (hw.f_lt k B' e) h1.size
 · rw [hget] at e
   by_cases hkn:k=nm
   · subst hkn
     rw[if_pos rfl] at e;cases e;refine⟨B,hnmf,hBi,?_⟩;obtain⟨arr,t,a1,a2,a3,a4,a5⟩:=hBo;exact⟨arr,t,a1,a2,a3,a4,fun i e he=>⟨(a5 i e he).1,fun j x hx=>by
      obtain⟨v,v1,v2⟩:=(a5 i e he).2 j x hx;exact⟨v,v1,zjb (c:=c1) (c':=c') rfl v2 (hfl i e he j x hx)⟩⟩⟩
   · rw [if_neg hkn] at e
     obtain⟨B',g1,g2,g3⟩:=hw.obj k o e;have hlt:=hw.f_lt k B' g1;exact⟨B',(hoth k hkn).trans g1,fun hi=>by
      rcases hnew _ hi with g|g
      · exact g2 g
      · omega,g3.mono (hb _ hlt) hrel (fun b e=>⟨h1.imm b e,hb b (hw.imm_lt b e)⟩)⟩
 · rw [hget] at e e'
   by_cases hkn:k=nm<;>by_cases hkn':k'=nm
   · rw[hkn,hkn']
   · subst hkn;rw[hnmf] at f;cases f;rw[hoth k' hkn'] at f';have:=hw.f_lt k' B2 f';omega
   · subst hkn';rw[hnmf] at f';cases f';rw[hoth k hkn] at f;have:=hw.f_lt k B1 f;omega
   · rw [if_neg hkn] at e; rw [if_neg hkn'] at e'; rw [hoth k hkn] at f; rw [hoth k' hkn'] at f'
     exact hw.inj k k' o o' B1 B2 e e' f f' he
end
end Go.Ago
end
