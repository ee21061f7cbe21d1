/-
  Part 7: lemmas, each with its own conditions.
-/
import Derived.RangeFuncLeaves
import Derived.OrdersIn
import Derived.LoopNIn
import Derived.RangeFuncRecord
import Derived.Test.YthaolifcglpkdaaGreatDoorA06
set_option maxRecDepth 100000
set_option maxHeartbeats 0
set_option linter.all false
section
namespace Go.Ago
inductive AE where
 | ret (v:AV)
 | pan (v:AV)
inductive AX where
 | normal
 | exit (id:Nat)
 | goto (l:Nat)
 | ret
 | pan (v:AV)
def ERel (c:Ctx)(w:World):AE→Ending→Prop
 | .ret x,.returned v=>Rel c w x v
 | .pan x,.panicked chain=>∃v,chain=[{ v,recovered:=false }]∧Rel c w x v
 | _,_=>False
def XRel (c:Ctx)(w:World):AX→Exit→Prop
 | .normal,.normal | .ret,.ret=>True
 | .exit i,.exit j | .goto i,.goto j=>i=j
 | .pan x,.panic chain=>∃v,chain=[{ v,recovered:=false }]∧Rel c w x v
 | _,_=>False
structure ExtM (m:Nat)(c:Ctx)(w:World)(H:zah)(c':Ctx)(w':World)(H':zah):Prop where
 f:∀k,k<m→c'.f k=c.f k
 imm:∀b,c.imm b→c'.imm b
 os:w'.os=w.os
 tape:w'.tape=w.tape
 output:w'.output=w.output
 size:w.heap.size≤w'.heap.size
 other:∀b,b<w.heap.size→¬Own c H b→w'.heap[b]? = w.heap[b]?
 newimm:∀b,c'.imm b→c.imm b∨Own c H b∨w.heap.size≤b
 own:∀b,Own c' H' b→Own c H b∨w.heap.size≤b
section
variable {m:Nat} {c c' c'':Ctx} {w w' w'':World} {H H' H'':zah}
theorem ExtM.refl (m:Nat)(c:Ctx)(w:World)(H:zah):ExtM m c w H c w H:=
 ⟨fun _ _=>rfl,fun _ h=>h,rfl,rfl,rfl,Nat.le_refl _,fun _ _ _=>rfl,fun _ h => .inl h,fun _ h => .inl h⟩
theorem ExtM.trans (h:ExtM m c w H c' w' H')(h':ExtM m c' w' H' c'' w'' H''):ExtM m c w H c'' w'' H'' :={
 f k hk:=(h'.f k hk).trans (h.f k hk)
 imm b hb:=h'.imm b (h.imm b hb)
 os:=h'.os.trans h.os
 tape:=h'.tape.trans h.tape
 output:=h'.output.trans h.output
 size:=Nat.le_trans h.size h'.size
 other b hb hn := (h'.other b (Nat.lt_of_lt_of_le hb h.size) (fun ho=>by
  rcases h.own b ho with h1|h1
  · exact hn h1
  · omega)).trans (h.other b hb hn)
 newimm b hb:=by
  rcases h'.newimm b hb with h1|h1|h1
  · exact h.newimm b h1
  · rcases h.own b h1 with h2 | h2
    · exact .inr (.inl h2)
    · exact .inr (.inr h2)
  · exact .inr (.inr (Nat.le_trans h.size h1))
 own b hb:=by
  rcases h'.own b hb with h1|h1
  · exact h.own b h1
  · exact .inr (Nat.le_trans h.size h1) }
theorem ExtM.less {m':Nat}(h:ExtM m c w H c' w' H')(hm:m'≤m):ExtM m' c w H c' w' H':={ h with f:=fun k hk=>h.f k (Nat.lt_of_lt_of_le hk hm) }
theorem Ext.toM (h:Ext c w H c' w' H')(hf:∀k,k<m→c'.f k=c.f k):ExtM m c w H c' w' H':=
 ⟨hf,h.le.imm,h.os,h.tape,h.output,h.size,h.other,h.newimm,h.own⟩
theorem ExtM.drew (h:ExtM m c w H c' w' H'):ExtM m c w H c' w'.drew H':=⟨h.f,h.imm,h.os,h.tape,h.output,h.size,h.other,h.newimm,h.own⟩
end
def FR (r:Option Nat):Fence:={ Fence.wide with round:=r }
theorem callsIn_FR {r:Option Nat}{n:Nat}{P:Program}{f:FuncId}{args:Array Value}{w:World}{R:Ending→World→Prop}:CallsIn (FR r) n P f args w R↔Calls P f args w R:=
 show CallsIn Fence.wide n P f args w R↔_ from callsIn_wide
def DefOK (c:Ctx)(w:World):Nat→List Deferred→Prop
 | _,[]=>True
 | hi,d::ds=>∃D,d={ target := .collected D,args:=#[] }∧D<hi∧¬c.imm D∧w.heap[D]? = some (.deferred (some []))∧DefOK c w D ds
theorem DefOK.mono {c c':Ctx}{w w':World}:∀{hi hi':Nat} {ds:List Deferred},DefOK c w hi ds→hi≤hi'→(∀D,D<hi→¬c.imm D→w.heap[D]? = some (.deferred (some []))→¬c'.imm D∧w'.heap[D]? = some (.deferred (some [])))→DefOK c' w' hi' ds
 | _,_,[],_,_,_=>trivial
 | _, _, _ :: _, ⟨D, h1, h2, h3, h4, h5⟩, hle, h =>
   ⟨D,h1,Nat.lt_of_lt_of_le h2 hle,(h D h2 h3 h4).1,(h D h2 h3 h4).2,DefOK.mono h5 (Nat.le_refl _) fun D' hD'=>h D' (Nat.lt_trans hD' h2)⟩
theorem WRel.not_own_def {G:zd9}{c:Ctx}{w:World}{H:zah}(h:WRel G c w H){D:Nat}{x:Option (List Deferred)}(hD:w.heap[D]? = some (.deferred x)):¬Own c H D:=by
 rintro⟨k,o,B,hk,hf,rfl⟩
 obtain⟨B',hf',_,ho⟩:=h.obj k o hk;rw[hf] at hf';cases hf';cases o with
 | arr sz es=>obtain⟨arr,t,a1,_⟩:=ho;rw[hD] at a1;cases a1
 | sit s pos=>have:=ho.1;rw[hD] at this;cases this
 | lp st pend sl nsl code=>obtain⟨r,g,a1,_⟩:=ho;rw[hD] at a1;cases a1
 | mp es=>obtain⟨_,mes,clock,a1,_⟩:=ho;rw[hD] at a1;cases a1
 | mit cur es=>obtain⟨_,r,mes,clock,seen,a1,_⟩:=ho;rw[hD] at a1;cases a1
theorem ExtM.defs {m:Nat}{G:zd9}{c c':Ctx}{w w':World}{H H':zah}(h:ExtM m c w H c' w' H')(hw:WRel G c w H){ds:List Deferred}(hd:DefOK c w w.heap.size ds):DefOK c' w' w'.heap.size ds:=
 hd.mono h.size fun D hlt hi hD=>⟨fun hi'=>by
  rcases h.newimm D hi' with g|g|g
  · exact hi g
  · exact hw.not_own_def hD g
  · omega,(h.other D hlt (hw.not_own_def hD)).trans hD⟩
theorem Ext.defs {G:zd9}{c c':Ctx}{w w':World}{H H':zah}(h:Ext c w H c' w' H')(hw:WRel G c w H){ds:List Deferred}(hd:DefOK c w w.heap.size ds):DefOK c' w' w'.heap.size ds:=
 ExtM.defs (m:=0) (h.toM fun k hk=>absurd hk (Nat.not_lt_zero _)) hw hd
def Gd (w:World)(a a':Act):Prop:=∃ds,a'.defers=ds++a.defers∧∀d∈ds,∃D,d={ target := .collected D,args:=#[] }∧w.heap.size≤D
theorem Gd.refl (w:World)(a:Act):Gd w a a:=⟨[],rfl,by simp⟩
theorem Gd.trans {w w':World}{a a' a'':Act}(h:Gd w a a')(h':Gd w' a' a'')(hs:w.heap.size≤w'.heap.size):Gd w a a'':=by
 obtain⟨ds,e,h⟩:=h;obtain⟨ds',e',h'⟩:=h';refine⟨ds'++ds,by rw[e',e,List.append_assoc],fun d hd=>?_⟩
 rcases List.mem_append.1 hd with hd|hd
 · obtain ⟨D, g1, g2⟩ := h' d hd
   exact⟨D,g1,Nat.le_trans hs g2⟩
 · exact h d hd
theorem Gd.same {w:World}{a a' a'':Act}(h:Gd w a a')(e:a''.defers=a'.defers):Gd w a a'':=by
 obtain⟨ds,e',h⟩:=h;exact⟨ds,e.trans e',h⟩
theorem zco (a:Act)(d:Option Tmp)(v:Value):(a.put d v).defers=a.defers:=by cases d<;>rfl
structure ExtA (m:Nat)(c:Ctx)(a:Act)(w:World)(H:zah)(c':Ctx)(a':Act)(w':World)(H':zah):Prop extends ExtM m c w H c' w' H' where
 gd:Gd w a a'
section
variable {m:Nat} {c c' c'':Ctx} {a a' a'':Act} {w w' w'':World} {H H' H'':zah}
theorem ExtA.refl (m:Nat)(c:Ctx)(a:Act)(w:World)(H:zah):ExtA m c a w H c a w H:=⟨ExtM.refl m c w H,Gd.refl w a⟩
theorem ExtA.trans (h:ExtA m c a w H c' a' w' H')(h':ExtA m c' a' w' H' c'' a'' w'' H''):ExtA m c a w H c'' a'' w'' H'':=⟨h.toExtM.trans h'.toExtM,h.gd.trans h'.gd h.size⟩
theorem ExtA.thenM (h:ExtA m c a w H c' a' w' H')(h':ExtM m c' w' H' c'' w'' H'')(e:a''.defers=a'.defers):ExtA m c a w H c'' a'' w'' H'':=⟨h.toExtM.trans h',h.gd.same e⟩
end
structure Sim (P:Program)(E:Env)(c:Ctx)(S:St)(a:Act)(w:World):Prop where
 size:a.tmps.size=S.nsl
 slots:∀t x,S.slots.get t=some x→∃v,a.tmps[t]? = some v∧Rel c w x v
 defers:DefOK c w w.heap.size a.defers
 wrel:WRel E.glob c w S.heap
 fresh:∀k,S.next≤k→c.f k=none
def zos (P:Program)(g:FuncId):Prop:=∃fn,P.funcs[g]? = some fn∧fn.body.isSome=true∧fn.name ≠ "runtime.NumGoroutine"
def AC (P:Program)(E:Env)(g:FuncId)(args:List AV)(H:zah)(nx:Nat)(R:AE→zah→Nat→Prop):Prop:=
 zos P g∧∀c w vs,WRel E.glob c w H→(∀k,nx≤k→c.f k=none)→RelL c w args vs →
  Calls P g vs.toArray w fun e w'=>∃c' H' nx' ae,ExtM nx c w H c' w' H'∧WRel E.glob c' w' H'∧nx≤nx'∧(∀k,nx'≤k→c'.f k=none)∧ERel c' w' ae e∧R ae H' nx'
def PC (P:Program)(E:Env)(g:FuncId)(args:List AV)(Q:AE→Prop):Prop:=
 zos P g∧∀c w vs,(∀k,c.f k=none)→WRel E.glob c w .nil→RelL c w args vs →
  Calls P g vs.toArray w fun e w'=>∃c' ae,Ext c w .nil c' w' .nil∧(∀k,c'.f k=none)∧WRel E.glob c' w' .nil∧ERel c' w' ae e∧Q ae
def QS (P:Program)(E:Env)(m:Nat)(c0:Ctx)(a0:Act)(w0:World)(S0:St)(K:AX→St→Prop):Exit→Act→World→Prop:=
 fun e a' w'=>∃c' S' ax,ExtA m c0 a0 w0 S0.heap c' a' w' S'.heap∧S0.next≤S'.next∧Sim P E c' S' a' w'∧XRel c' w' ax e∧K ax S'
def SW (P:Program)(E:Env)(rr:Bool)(code:Code)(K:AX→St→Prop)(S:St):Prop:=
 ∀r,(rr=false→r=none)→∀m,m≤S.next→∀c a w,Sim P E c S a w→code.wpIn (FR r) 0 P (QS P E m c a w S K) a w
def AY (P:Program)(E:Env)(k:Nat)(args:List AV)(H:zah)(nx:Nat)(R:AE→zah→Nat→Prop):Prop:=
 ∀c w vs,WRel E.glob c w H→(∀j,nx≤j→c.f j=none)→RelL c w args vs→∃B rec,c.f k=some B∧w.heap[B.b]? = some (.loop rec)∧vs.length=rec.params.size ∧
  RoundIn Fence.wide 0 P B.b rec.fn ((rec.params.zip vs.toArray).foldl (fun t (p,v)=>t.setIfInBounds p v) rec.tmps) rec.assign rec.body w fun e w'=>
   ∃c' H' nx' ae,ExtM nx c w H c' w' H'∧WRel E.glob c' w' H'∧nx≤nx'∧(∀k,nx'≤k→c'.f k=none)∧ERel c' w' ae e∧R ae H' nx'
def zbw (S:St):Option Tmp→Bool
 | none=>true
 | some d=>Nat.blt d S.nsl && Nat.ble (d+2) 16777216
def St.put (S:St)(dst:Option Tmp)(v:AV)(H:zah)(nx:Nat):St:=
 { slots:=match dst with
  | none=>S.slots
  | some d=>S.slots.set 24 d (some v),nsl:=S.nsl,heap:=H,next:=nx }
def zt2 (P:Program)(E:Env)(f:AV)(args:List AV)(S:St)(dst:Option Tmp)(next:St→Prop)(K:AX→St→Prop):Prop:=
 match f with
 | .fn (.func g) first cap => AC P E g (first ++ args ++ cap) S.heap S.next fun ae H' nx' => match ae with
   | .ret v=>next (S.put dst v H' nx')
   | .pan v=>K (.pan v) (S.put none .any H' nx')
 | .mapp k => AY P E k args S.heap S.next fun ae H' nx' => match ae with
   | .ret v=>next (S.put dst v H' nx')
   | .pan v=>K (.pan v) (S.put none .any H' nx')
 | _=>False
def aop (P:Program)(E:Env)(nm:Nat)(o:Oper)(S:St)(next:St→Prop)(K:AX→St→Prop):Prop:=
 zbw S o.dst=true∧match o.op with
  | .call { callee := .value f,args,.. }=>zt2 P E (S.ev E f) (args.toList.map (S.ev E)) S o.dst next K
  | op=>(sem E nm (S.ev E) op).holds S.heap (fun eff=>next (S.put o.dst eff.val (Eff.upd S.heap eff.up) S.next)) (fun v=>K (.pan v) S)
def zcx (ops:List Oper)(S:St)(j:Nat)(want:Bool):Option Bool:=
 match ops[j]? with
 | some o => match o.dst with
   | some d => match S.slots.get d with
     | some (.bool b)=>some (b == want)
     | some (.tup [])=>some false
     | _=>none
   | none=>none
 | none=>none
theorem zqm {c:Ctx}{w:World}:Rel c w (.tup []) undef:=Rel.tup (cs:=[]) (vs:=[]) rfl (by simp)
def gate (ops:List Oper)(S:St)(g:Option (Nat×Bool))(p q:Prop):Prop:=
 match g with
 | none=>p
 | some (j, want) => match zcx ops S j want with
   | some b=>(b=true→p)∧(b=false→q)
   | none=>False
def zik (P:Program)(E:Env)(ops:List Oper)(base:Nat)(K:AX→St→Prop):List Oper→Nat→St→Prop
 | [],_,S=>K .normal S
 | o::rest,i,S=>gate ops S o.guard (aop P E (base+i) o S (zik P E ops base K rest (i+1)) K) (zbw S o.dst=true∧zik P E ops base K rest (i+1) (S.put o.dst (.tup []) S.heap S.next))
def aw (P:Program)(E:Env)(rr:Bool):Code→(AX→St→Prop)→St→Prop
 | .skip,K,S=>K .normal S
 | .label _,K,S=>K .normal S
 | .exit i,K,S=>K (.exit i) S
 | .goto l,K,S=>K (.goto l) S
 | .ret,K,S=>K .ret S
 | .region _ ops false,K,S=>zik P E ops.toList S.next K ops.toList 0 { S with next:=S.next+ops.size }
 | .seq a b,K,S=>aw P E rr a (fun e S'=>match e with | .normal=>aw P E rr b K S'|e=>K e S') S
 | .cond x t e, K, S => match S.ev E x with
   | .bool b=>(b=true→aw P E rr t K S)∧(b=false→aw P E rr e K S)
   | _=>False
 | .block id body, K, S => aw P E rr body (fun e S' => match e with
   | .exit j=>(j=id→K .normal S')∧(j≠id→K (.exit j) S')
   | e=>K e S') S
 | code,K,S=>SW P E rr code K S
section
variable {P:Program} {E:Env} {c:Ctx} {S:St} {a:Act} {w:World}
theorem zof (v:Value):Rel c w (zrp v) v:=by
 unfold zrp;split<;>first|exact .any _|constructor
theorem zto (v:Value):Rel c w (ztp v) v:=by
 unfold ztp;split
 · rename_i cs
   have : Rel c w (.agg (cs.toList.map zrp)) (.agg cs.toList.toArray) := Rel.agg (by simp) (fun i x v e e'=>by
    simp only[List.getElem?_map,Option.map_eq_some_iff] at e;obtain⟨u,hu,rfl⟩:=e;rw[e'] at hu;cases hu;exact zof v)
   simpa using this
 · exact zof v
theorem Sim.ev (h:Sim P E c S a w)(x:Operand):Rel c w (S.ev E x) (a.eval x):=by
 cases x with
 | tmp t =>
   simp only[St.ev,Act.eval];cases e:S.slots.get t with
   | none=>exact .any _
   | some x =>
     obtain⟨v,hv,hr⟩:=h.slots t x e
     simpa[Array.getD_eq_getD_getElem?,hv] using hr
 | const v=>exact zto v
 | global g =>
   simp only[St.ev,Act.eval];cases e:E.glob g with
   | none=>exact .any _
   | some cs=>exact h.wrel.glob g cs e
 | func f =>
   have:=Rel.fn (c:=c) (w:=w) (.func f) (xs:=[]) (ys:=[]) (vs:=[]) (us:=[]) rfl rfl (by simp) (by simp)
   simpa[St.ev,Act.eval] using this
theorem Sim.put {c':Ctx}{w':World}{H':zah}{nx':Nat}(h:Sim P E c S a w)(hdf:DefOK c' w' w'.heap.size a.defers)(hx:∀{x v},Rel c w x v→Rel c' w' x v)(hw:WRel E.glob c' w' H')(hf:∀k,nx'≤k→c'.f k=none){dst:Option Tmp}(hd:zbw S dst=true){x:AV}{v:Value}(hr:Rel c' w' x v) :
 Sim P E c' (S.put dst x H' nx') (a.put dst v) w':=by
 cases dst with
 | none=>exact⟨h.size,fun t y e=>by obtain⟨u,h1,h2⟩:=h.slots t y e;exact⟨u,h1,hx h2⟩,hdf,hw,hf⟩
 | some d =>
   simp only[zbw,Bool.and_eq_true] at hd;have hlt:d<S.nsl:=by simpa using hd.1
   have h24:(d+1:Nat)<2 ^ 24:=Nat.lt_of_lt_of_le (Nat.lt_succ_self (d+1)) (Nat.le_trans (Nat.le_of_ble_eq_true hd.2) (by decide))
   refine⟨by simpa[Act.put,St.put] using h.size,fun t y e=>?_,hdf,hw,hf⟩
   simp only[St.put] at e;rw[Tr.get_set 24 d _ _ t h24] at e;simp only[Act.put]
   by_cases ht:t=d
   · subst ht
     simp only[if_true,Option.some.injEq] at e;subst e;exact⟨v,by rw[Array.getElem?_setIfInBounds];simp[h.size,hlt],hr⟩
   · rw [if_neg ht] at e
     obtain⟨u,h1,h2⟩:=h.slots t y e;exact⟨u,by rw[Array.getElem?_setIfInBounds];simp[Ne.symm ht,h1],hx h2⟩
theorem zdl {g:FuncId}(h:zos P g)(args:Array Value)(w:World):(callFunc g args).run P w = .ok (.enter g args) w:=by
 obtain⟨fn,h1,h2,h3⟩:=h;have h5:¬fn.body=none:=by intro e;rw[e] at h2;cases h2
 simp[callFunc,h1,h3,h5]
structure Mid (P:Program)(E:Env)(m:Nat)(c0:Ctx)(a0:Act)(w0:World)(S0:St)(lo hi:Nat)(c:Ctx)(S:St)(a:Act)(w:World):Prop where
 ext:ExtA m c0 a0 w0 S0.heap c a w S.heap
 nxt:S0.next≤S.next
 top:hi≤S.next
 mlo:m≤lo
 sim:Sim P E c S a w
 free:∀k,lo≤k→k<hi→c.f k=none
theorem zp2 {r:Option Nat}{o:Oper}{N:Act→World→Prop}{Q:Exit→Act→World→Prop}(hd:∀c,o.op≠.defer c)(hr:∀row args w',(execOp a.eval o).run P w≠.ok (.row row args) w')(h:o.wp P a w N Q):o.wpIn (FR r) 0 P a w N Q:=by
 refine⟨fun _ _=>trivial,?_⟩
 rw[Oper.semAt_eq _ _ _ hd];unfold Oper.wp at h
 generalize hres:(execOp a.eval o).run P w=res at h hr ⊢
 unfold Oper.upon at h;unfold Oper.uponIn;split at h
 · exact h
 · exact h
 · exact h
 · exact⟨(fun h=>by cases h),callsIn_FR.2 h⟩
 · exact absurd rfl (hr _ _ _)
 · exact h
 · exact h.elim
variable {m lo hi:Nat} {c0:Ctx} {a0:Act} {w0:World} {S0:St} {K:AX→St→Prop} {rr:Bool} {r:Option Nat}
theorem ycz (hE:EnvOK P E){o:Oper}{next:St→Prop}(hm:Mid P E m c0 a0 w0 S0 lo hi c S a w)(hlt:lo<hi)(h:aop P E lo o S next K){N:Act→World→Prop}
 (hN:∀c' S' a' w',Mid P E m c0 a0 w0 S0 (lo+1) hi c' S' a' w'→next S'→N a' w'):o.wpIn (FR r) 0 P a w N (QS P E m c0 a0 w0 S0 K):=by
 obtain⟨hd,h⟩:=h;have hlo:c.f lo=none:=hm.free lo (Nat.le_refl _) hlt;have prim:∀op,o.op=op→(sem E lo (S.ev E) op).holds S.heap (fun eff=>next (S.put o.dst eff.val (Eff.upd S.heap eff.up) S.next)) (fun v=>K (.pan v) S)→o.wpIn (FR r) 0 P a w N (QS P E m c0 a0 w0 S0 K):=by
  intro op hop h;subst hop;have hnd:∀c,o.op≠.defer c:=fun c e=>by rw[e] at h;exact(show False from h)
  rcases Rd.holds_run h with⟨eff,hr,hk⟩|⟨v,hr,hk⟩
  · obtain ⟨nx, w', c', hrun, hext, hw', hf, hv⟩ := zlv hE hm.sim.wrel hlo hm.sim.ev o hr
    refine zp2 hnd (fun row args w'' e=>?_) ?_
    · rw[hrun] at e;rcases hv with⟨v,rfl,_⟩|⟨rfl,_⟩<;>cases e
    unfold Oper.wp;rw[hrun];have hx:∀{x v},Rel c w x v→Rel c' w' x v:=fun hr=>hext.rel hm.sim.wrel hr
    have mid:∀v,Rel c' w' eff.val v→Mid P E m c0 a0 w0 S0 (lo+1) hi c' (S.put o.dst eff.val (Eff.upd S.heap eff.up) S.next) (a.put o.dst v) w':=fun v hv=>
     ⟨hm.ext.thenM (hext.toM fun k hk=>hf k (by have:=hm.mlo;omega)) (zco ..),hm.nxt,hm.top,Nat.le_succ_of_le hm.mlo,
      hm.sim.put (hext.defs hm.sim.wrel hm.sim.defers) hx hw' (fun k hk=>by rw[hf k (by have:=hm.top;omega)];exact hm.sim.fresh k hk) hd hv,
      fun k h1 h2=>by rw[hf k (by omega)];exact hm.free k (by omega) h2⟩
    rcases hv with⟨v,rfl,hv⟩|⟨rfl,hany⟩
    · exact hN _ _ _ _ (mid v hv) hk
    · exact hN _ _ _ _ (mid undef (by rw[hany];exact .any _)) hk
  · obtain ⟨u, hrun, hu⟩ := zlv hE hm.sim.wrel hlo hm.sim.ev o hr
    refine zp2 hnd (fun row args w'' e=>?_) ?_
    · rw[hrun] at e;cases e
    unfold Oper.wp;rw[hrun];exact⟨c,S,.pan v,hm.ext,hm.nxt,hm.sim,⟨u,rfl,hu⟩,hk⟩
 split at h
 · rename_i f args ts hop
   have hfr:=hm.sim.ev f;unfold zt2 at h;split at h
   · rename_i g first cap hev
     rw[hev] at hfr
     generalize hfv:a.eval f=fv at hfr
     cases hfr with
     | @fn _ _ _ _ _ vs us h1 h2 hr1 hr2 =>
       obtain⟨hok,h⟩:=h;have hargs:=zfz hm.sim.ev args.toList;have hall:RelL c w (first++args.toList.map (S.ev E)++cap) (vs++args.toList.map a.eval++us):=((RelL.append ⟨h1,hr1⟩ hargs).append ⟨h2,hr2⟩);have hcalls:=h c w _ hm.sim.wrel hm.sim.fresh hall;have hrun:(execOp a.eval o).run P w = .ok (.enter g (vs++args.toList.map a.eval++us).toArray) w:=by
        have e:vs.toArray++args.map a.eval++us.toArray=(vs++args.toList.map a.eval++us).toArray:=by
         apply Array.ext';simp
        simp only[execOp,hop,resolve,hfv,Deferred.ofValue,Sem.run_bind,Sem.run_pure,Result.andThen_ok,invoke,zdl hok,e]
       refine zp2 (fun c e=>by rw[hop] at e;cases e) (fun row args w'' e=>by rw[hrun] at e;cases e) ?_
       unfold Oper.wp;rw[hrun];refine hcalls.mono ?_
       rintro e w' ⟨c',H',nx',ae,hext,hw',hnx,hfr',her,hR⟩
       have hle:c.le c':=by
        refine⟨fun k p e=>?_,hext.imm⟩
        by_cases hk:k<S.next
        · rw[hext.f k hk];exact e
        · rw[hm.sim.fresh k (by omega)] at e;cases e
       have hx:∀{x v},Rel c w x v→Rel c' w' x v:=fun hr=>hr.mono hle (fun b hb=>hext.other b (hm.sim.wrel.imm_lt b hb) (hm.sim.wrel.not_own hb))
       have hextm:=hext.less (by have:=hm.mlo;have:=hm.top;omega:m≤S.next)
       have hdf:=hext.defs hm.sim.wrel hm.sim.defers;have hn:=Nat.le_trans hm.nxt hnx;cases ae with
       | ret x =>
         cases e with
         | returned v =>
           refine hN c' (S.put o.dst x H' nx') _ _ ⟨hm.ext.thenM hextm (zco ..),hn,Nat.le_trans hm.top hnx,Nat.le_succ_of_le hm.mlo,hm.sim.put hdf hx hw' hfr' hd her,fun k h1 h2=>?_⟩ hR
           rw[hext.f k (by have:=hm.top;omega)]
           exact hm.free k (by omega) h2
         | panicked _=>exact her.elim
         | outgrown=>exact her.elim
       | pan x =>
         cases e with
         | panicked chain=>exact⟨c',S.put none .any H' nx',.pan x,hm.ext.thenM hextm rfl,hn,hm.sim.put hdf hx hw' hfr' rfl (.any undef),her,hR⟩
         | returned _=>exact her.elim
         | outgrown=>exact her.elim
   · rename_i k hev
     rw[hev] at hfr
     generalize hfv:a.eval f=fv at hfr
     cases hfr with
     | @mapp _ _ _ B hB =>
       have hargs:=zfz hm.sim.ev args.toList;obtain⟨B',rec,hB',hrec,hlen,hround⟩:=h c w _ hm.sim.wrel hm.sim.fresh hargs;rw[hB] at hB';cases hB';refine⟨fun _ _=>trivial,?_⟩
       rw[Oper.semAt_eq _ _ _ (fun c e=>by rw[hop] at e;cases e)]
       have hsz:(args.map a.eval).size=rec.params.size:=by rw[← hlen];simp
       have hlist:(args.toList.map a.eval).toArray=args.map a.eval:=by apply Array.ext';simp
       rw[hlist] at hround;have hrun:(execOp a.eval o).run P w = .ok (.round B.b rec.fn ((rec.params.zip (args.map a.eval)).foldl (fun t (p,v)=>t.setIfInBounds p v) rec.tmps) rec.assign rec.body) w:=by
        have:=run_yield (P:=P) (args:=args.map a.eval) hrec hsz;simp only[execOp,hop,resolve,hfv,Deferred.ofValue,Sem.run_bind,Sem.run_pure,Result.andThen_ok,invoke]
        simpa using this
       rw[hrun,Oper.uponIn_round];refine⟨(fun h=>by cases h),?_⟩
       have hround':RoundIn (FR r) 0 P B.b rec.fn ((rec.params.zip (args.map a.eval)).foldl (fun t (p,v)=>t.setIfInBounds p v) rec.tmps) rec.assign rec.body w _:=hround
       refine hround'.mono ?_
       rintro e w' ⟨c',H',nx',ae,hext,hw',hnx,hfr',her,hR⟩
       have hle:c.le c':=by
        refine⟨fun k p e=>?_,hext.imm⟩
        by_cases hk:k<S.next
        · rw[hext.f k hk];exact e
        · rw[hm.sim.fresh k (by omega)] at e;cases e
       have hx:∀{x v},Rel c w x v→Rel c' w' x v:=fun hr=>hr.mono hle (fun b hb=>hext.other b (hm.sim.wrel.imm_lt b hb) (hm.sim.wrel.not_own hb))
       have hextm:=hext.less (by have:=hm.mlo;have:=hm.top;omega:m≤S.next)
       have hdf:=hext.defs hm.sim.wrel hm.sim.defers;have hn:=Nat.le_trans hm.nxt hnx;cases ae with
       | ret x =>
         cases e with
         | returned v =>
           refine hN c' (S.put o.dst x H' nx') _ _ ⟨hm.ext.thenM hextm (zco ..),hn,Nat.le_trans hm.top hnx,Nat.le_succ_of_le hm.mlo,hm.sim.put hdf hx hw' hfr' hd her,fun k h1 h2=>?_⟩ hR
           rw[hext.f k (by have:=hm.top;omega)]
           exact hm.free k (by omega) h2
         | panicked _=>exact her.elim
         | outgrown=>exact her.elim
       | pan x =>
         cases e with
         | panicked chain=>exact⟨c',S.put none .any H' nx',.pan x,hm.ext.thenM hextm rfl,hn,hm.sim.put hdf hx hw' hfr' rfl (.any undef),her,hR⟩
         | returned _=>exact her.elim
         | outgrown=>exact her.elim
   · exact h.elim
 · exact prim _ rfl h
theorem zkd {ops:Array Oper}(hs:Sim P E c S a w){o:Oper}{j:Nat}{want b:Bool}(hg:o.guard=some (j,want))(h:zcx ops.toList S j want=some b):Region.wanted o (yielded ops a.tmps)=b:=by
 simp only[zcx] at h;cases e1:ops.toList[j]? with
 | none=>rw[e1] at h;cases h
 | some oj =>
   rw[e1] at h;dsimp only at h;cases e2:oj.dst with
   | none=>rw[e2] at h;cases h
   | some d =>
     rw[e2] at h;dsimp only at h;have e1':ops[j]? = some oj:=by simpa using e1
     cases e3:S.slots.get d with
     | none=>rw[e3] at h;cases h
     | some x =>
       rw[e3] at h;obtain⟨v,hv,hr⟩:=hs.slots d _ e3;split at h
       · rename_i b' e
         cases e;cases h;cases hr;simp only[Region.wanted,hg,yielded,e1',Option.bind_some,e2,hv];cases b'<;>cases want<;>rfl
       · rename_i e
         cases e;cases h;cases hr with
         | @tup _ _ cs vs hl _ =>
           have:vs=[]:=List.eq_nil_of_length_eq_zero hl.symm;subst this;simp only[Region.wanted,hg,yielded,e1',Option.bind_some,e2,hv];cases want<;>rfl
       · cases h
theorem zij (hE:EnvOK P E){ops:Array Oper}:∀(rest:List Oper) (i base:Nat) (c:Ctx) (S:St) (a:Act) (w:World),ops.toList.drop i=rest →
 Mid P E m c0 a0 w0 S0 (base+i) (base+ops.size) c S a w→zik P E ops.toList base K rest i S→wpOpsIn (FR r) 0 P ops (QS P E m c0 a0 w0 S0 K) ((List.range ops.size).drop i) a w
 | [], i, base, c, S, a, w, hd, hm, h => by
   have hi:ops.size≤i:=by
    have:=congrArg List.length hd;simp at this;omega
   rw[List.drop_eq_nil_of_le (by simpa using hi)]
   exact⟨c,S,.normal,hm.ext,hm.nxt,hm.sim,trivial,h⟩
 | o :: rest, i, base, c, S, a, w, hd, hm, h => by
   have hi:i<ops.size:=by
    have:=congrArg List.length hd;simp at this;omega
   have ho:ops[i]? = some o:=by
    have:(ops.toList.drop i)[0]? = some o:=by rw[hd];rfl
    simpa using this
   have hd':ops.toList.drop (i+1)=rest:=by
    rw[← List.drop_drop,hd];rfl
   rw[List.drop_eq_getElem_cons (by simpa using hi)]
   simp only[List.getElem_range,wpOpsIn,ho];have ih:=zij hE (ops:=ops) rest (i+1) base;have hskip:zbw S o.dst=true→zik P E ops.toList base K rest (i+1) (S.put o.dst (.tup []) S.heap S.next)→wpOpsIn (FR r) 0 P ops (QS P E m c0 a0 w0 S0 K) ((List.range ops.size).drop (i+1)) (a.put o.dst undef) w:=fun hdst h=>
    ih c (S.put o.dst (.tup []) S.heap S.next) _ w hd' ⟨hm.ext.thenM (ExtM.refl ..) (zco ..),hm.nxt,hm.top,Nat.le_succ_of_le hm.mlo,hm.sim.put hm.sim.defers (fun h=>h) hm.sim.wrel hm.sim.fresh hdst zqm,fun k h1 h2=>hm.free k (by omega) h2⟩ h
   have hdo:aop P E (base+i) o S (zik P E ops.toList base K rest (i+1)) K→o.wpIn (FR r) 0 P a w (wpOpsIn (FR r) 0 P ops (QS P E m c0 a0 w0 S0 K) ((List.range ops.size).drop (i+1))) (QS P E m c0 a0 w0 S0 K):=fun h=>
    ycz hE hm (by omega) h (fun c' S' a' w' hm' hn=>ih c' S' a' w' hd' hm' hn)
   simp only[zik,gate] at h;cases hg:o.guard with
   | none =>
     rw[hg] at h;have:Region.wanted o (yielded ops a.tmps)=true:=by simp[Region.wanted,hg]
     rw[if_pos this];exact hdo h
   | some q =>
     obtain⟨j,want⟩:=q;rw[hg] at h;dsimp only at h;cases hv:zcx ops.toList S j want with
     | none=>rw[hv] at h;exact h.elim
     | some b =>
       rw[hv] at h;rw[zkd hm.sim hg hv];cases hb:b with
       | true=>rw[if_pos rfl];exact hdo (h.1 hb)
       | false =>
         rw[if_neg (by simp)]
         obtain⟨h1,h2⟩:=h.2 hb;exact⟨fun _ _=>trivial,hskip h1 h2⟩
theorem SW.mono {code:Code}{K K':AX→St→Prop}(h:SW P E rr code K S)(hk:∀e S',K e S'→K' e S'):SW P E rr code K' S:=
 fun r hr m hm c a w hs=>wpIn_mono (h r hr m hm c a w hs) fun _ _ _ ⟨c',S',ax,h1,h2,h3,h4,h5⟩=>⟨c',S',ax,h1,h2,h3,h4,hk _ _ h5⟩
theorem SW.seq {x y:Code}(h:SW P E rr x (fun e S'=>match e with | .normal=>SW P E rr y K S'|e=>K e S') S):SW P E rr (.seq x y) K S:=by
 intro r hr m hm c a w hs;refine wpIn_seq (wpIn_mono (h r hr m hm c a w hs) ?_)
 rintro e a' w' ⟨c',S',ax,h1,h2,h3,h4,h5⟩
 cases ax with
 | normal =>
   cases e<;>first|exact h4.elim|skip
   refine wpIn_mono (h5 r hr m (Nat.le_trans hm h2) c' a' w' h3) ?_
   rintro e2 a2 w2 ⟨c2,S2,ax2,g1,g2,g3,g4,g5⟩
   exact⟨c2,S2,ax2,h1.trans g1,Nat.le_trans h2 g2,g3,g4,g5⟩
 | exit i=>cases e<;>first|exact h4.elim|exact⟨c',S',_,h1,h2,h3,h4,h5⟩
 | goto i=>cases e<;>first|exact h4.elim|exact⟨c',S',_,h1,h2,h3,h4,h5⟩
 | ret=>cases e<;>first|exact h4.elim|exact⟨c',S',_,h1,h2,h3,h4,h5⟩
 | pan v=>cases e<;>first|exact h4.elim|exact⟨c',S',_,h1,h2,h3,h4,h5⟩
theorem SW.block {id : Nat}{body : Code}(h : SW P E rr body (fun e S'=>match e with
 | .exit j=>(j=id→K .normal S')∧(j≠id→K (.exit j) S')
 | e=>K e S') S):SW P E rr (.block id body) K S:=by
 intro r hr m hm c a w hs;refine wpIn_block (wpIn_mono (h r hr m hm c a w hs) ?_)
 rintro e a' w' ⟨c',S',ax,h1,h2,h3,h4,h5⟩
 cases ax with
 | exit i =>
   cases e<;>first|exact h4.elim|skip
   rename_i j;obtain rfl:i=j:=h4;simp only[Exit.inBlock]
   by_cases hi:i=id
   · rw[if_pos hi];exact⟨c',S',.normal,h1,h2,h3,trivial,h5.1 hi⟩
   · rw[if_neg hi];exact⟨c',S',.exit i,h1,h2,h3,rfl,h5.2 hi⟩
 | normal=>cases e<;>first|exact h4.elim|exact⟨c',S',_,h1,h2,h3,h4,h5⟩
 | goto i=>cases e<;>first|exact h4.elim|exact⟨c',S',_,h1,h2,h3,h4,h5⟩
 | ret=>cases e<;>first|exact h4.elim|exact⟨c',S',_,h1,h2,h3,h4,h5⟩
 | pan v=>cases e<;>first|exact h4.elim|exact⟨c',S',_,h1,h2,h3,h4,h5⟩
theorem SW.region (hE:EnvOK P E){id:Nat}{ops:Array Oper}(h:zik P E ops.toList S.next K ops.toList 0 { S with next:=S.next+ops.size }):SW P E rr (.region id ops false) K S:=by
 intro r hr m hm c a w hs;refine wpIn_region ?_;have:=zij (r:=r) (m:=m) (c0:=c) (a0:=a) (w0:=w) (S0:=S) (K:=K) hE ops.toList 0 S.next c { S with next:=S.next+ops.size } a w rfl
  ⟨ExtA.refl m c a w S.heap,by simp,by simp,hm,⟨hs.size,hs.slots,hs.defers,hs.wrel,fun k hk=>hs.fresh k (by have:S.next+ops.size≤k:=hk;omega)⟩,fun k h1 _=>hs.fresh k h1⟩ h
 rw[List.drop_zero] at this;exact this
theorem zhv (hE:EnvOK P E):∀{code:Code} {K:AX→St→Prop} {S:St},aw P E rr code K S→SW P E rr code K S
 | .skip,K,S,h=>fun r _ m _ c a w hs=>wpIn_skip ⟨c,S,.normal,ExtA.refl m c a w _,Nat.le_refl _,hs,trivial,h⟩
 | .label _,K,S,h=>fun r _ m _ c a w hs=>wpIn_label ⟨c,S,.normal,ExtA.refl m c a w _,Nat.le_refl _,hs,trivial,h⟩
 | .exit i,K,S,h=>fun r _ m _ c a w hs=>wpIn_exit ⟨c,S,.exit i,ExtA.refl m c a w _,Nat.le_refl _,hs,rfl,h⟩
 | .goto i,K,S,h=>fun r _ m _ c a w hs=>wpIn_goto ⟨c,S,.goto i,ExtA.refl m c a w _,Nat.le_refl _,hs,rfl,h⟩
 | .ret,K,S,h=>fun r _ m _ c a w hs=>wpIn_ret ⟨c,S,.ret,ExtA.refl m c a w _,Nat.le_refl _,hs,trivial,h⟩
 | .region _ ops false,K,S,h=>SW.region hE h
 | .region _ ops true,K,S,h=>h
 | .seq x y, K, S, h => SW.seq ((zhv hE (code:=x) h).mono fun e S' hk=>by
  cases e<;>first|exact zhv hE (code:=y) hk|exact hk)
 | .cond x t e, K, S, h => by
   intro r hrr m hm c a w hs;have hr:=hs.ev x;simp only[aw] at h;cases hx:S.ev E x<;>rw[hx] at h hr<;>first|exact h.elim|skip
   rename_i b
   generalize hv:a.eval x=v at hr
   cases hr;refine wpIn_cond hv ?_;cases b with
   | true=>exact zhv hE (code:=t) (h.1 rfl) r hrr m hm c a w hs
   | false=>exact zhv hE (code:=e) (h.2 rfl) r hrr m hm c a w hs
 | .block id body,K,S,h=>SW.block (zhv hE (code:=body) h)
 | .loop _,K,S,h=>h
 | .rangeFunc ..,K,S,h=>h
 | .scope _,K,S,h=>h
 | .refuse _,K,S,h=>h
end
end Go.Ago
end
section
namespace Go.Ago
def mapO {α β:Type}(f:α→Option β):List α→Option (List β)
 | []=>some []
 | x :: l => match f x with
   | none=>none
   | some y => match mapO f l with
     | none=>none
     | some ys=>some (y::ys)
theorem zhm {α β:Type}{f:α→Option β}:∀{l:List α} {r:List β},mapO f l=some r→r.length=l.length∧∀(i:Nat) x,l[i]? = some x→∃y,r[i]? = some y∧f x=some y
 | [],r,h=>by simp only[mapO,Option.some.injEq] at h;subst h;exact⟨rfl,fun i x e=>by simp at e⟩
 | x :: l, r, h => by
   simp only[mapO] at h;cases hx:f x with
   | none=>rw[hx] at h;cases h
   | some y =>
     rw[hx] at h;dsimp only at h;cases hl:mapO f l with
     | none=>rw[hl] at h;cases h
     | some ys =>
       rw[hl] at h;simp only[Option.some.injEq] at h;subst h;obtain⟨h1,h2⟩:=zhm hl;refine⟨by simp[h1],fun i z e=>?_⟩
       cases i with
       | zero=>simp at e;subst e;exact⟨y,rfl,hx⟩
       | succ i=>simpa using h2 i z (by simpa using e)
def entK (f:AV→Option AV)(p:Int×AV):Option (Int×AV):=match f p.2 with
 | some y=>some (p.1,y)
 | none=>none
theorem zvj {f:AV→Option AV}:∀{l r:List (Int×AV)},mapO (entK f) l=some r →
 (∀k y,(k,y)∈r→∃x,(k,x)∈l∧f x=some y)∧∀k x,(k,x)∈l→∃y,(k,y)∈r
 | [],r,h=>by simp only[mapO,Option.some.injEq] at h;subst h;exact⟨fun k y e=>(by cases e),fun k x e=>(by cases e)⟩
 | (a, z) :: l, r, h => by
   simp only[mapO,entK] at h;cases hz:f z with
   | none=>rw[hz] at h;cases h
   | some y =>
     rw[hz] at h;dsimp only at h;cases hl:mapO (entK f) l with
     | none=>rw[hl] at h;cases h
     | some ys =>
       rw[hl] at h;simp only[Option.some.injEq] at h;subst h;obtain⟨h1,h2⟩:=zvj hl;refine⟨fun k u e=>?_,fun k x e=>?_⟩
       · rcases List.mem_cons.1 e with e | e
         · cases e;exact⟨z,List.mem_cons_self,hz⟩
         · obtain ⟨x, e1, e2⟩ := h1 k u e
           exact⟨x,List.mem_cons_of_mem _ e1,e2⟩
       · rcases List.mem_cons.1 e with e | e
         · cases e;exact⟨y,List.mem_cons_self⟩
         · obtain ⟨u, e1⟩ := h2 k x e
           exact⟨u,List.mem_cons_of_mem _ e1⟩
theorem zq2 {f:AV→Option AV}:∀{l r:List (Int×AV)},mapO (entK f) l=some r→r.map (·.1)=l.map (·.1)
 | [],r,h=>by simp only[mapO,Option.some.injEq] at h;subst h;rfl
 | (a, z) :: l, r, h => by
   simp only[mapO,entK] at h;cases hz:f z with
   | none=>rw[hz] at h;cases h
   | some y =>
     rw[hz] at h;dsimp only at h;cases hl:mapO (entK f) l with
     | none=>rw[hl] at h;cases h
     | some ys =>
       rw[hl] at h;simp only[Option.some.injEq] at h;subst h;simp only[List.map_cons,zq2 hl]
def snap (H:zah):Nat→AV→Option AV
 | 0,_=>none
 | n + 1, v => match v with
   | .ptr k i off => match H.get k with
     | some (.arr _ es) => match es[i]? with
       | some e => match mapO (snap H n) (e.drop off) with
         | some cs=>some (.rptr cs)
         | none=>none
       | none=>none
     | _=>none
   | .slc k i len sz => match H.get k with
     | some (.arr sz' es) => match sz == sz' && Nat.ble (i + len) es.length with
       | true => match mapO (mapO (snap H n)) ((es.drop i).take len) with
         | some es'=>some (.rsl sz es')
         | none=>none
       | false=>none
     | _=>none
   | .mapp _=>none
   | .mpo k => match H.get k with
     | some (.mp es) => match mapO (entK (snap H n)) es with
       | some es'=>some (.rmp es')
       | none=>none
     | _=>none
   | .fn f xs ys => match mapO (snap H n) xs, mapO (snap H n) ys with
     | some xs,some ys=>some (.fn f xs ys)
     | _,_=>none
   | .ifc t v => match snap H n v with
     | some v=>some (.ifc t v)
     | none=>none
   | .agg cs => match mapO (snap H n) cs with
     | some cs=>some (.agg cs)
     | none=>none
   | .tup cs => match mapO (snap H n) cs with
     | some cs=>some (.tup cs)
     | none=>none
   | v=>some v
section
variable {P:Program} {E:Env} {G:zd9} {c:Ctx} {w:World} {H:zah}
theorem zds {f:AV→Option AV}{c':Ctx}{xs ys:List AV}{vs:List Value}(hm:mapO f xs=some ys)(hr:RelL c w xs vs)(hf:∀x v y,Rel c w x v→f x=some y→Rel c' w y v):RelL c' w ys vs:=by
 obtain⟨h1,h2⟩:=zhm hm;refine⟨by rw[h1];exact hr.1,fun i y v e e'=>?_⟩
 have hi:i<xs.length:=by have:=(List.getElem?_eq_some_iff.1 e).1;omega
 obtain⟨y',e1,e2⟩:=h2 i xs[i] (List.getElem?_eq_getElem hi);rw[e] at e1;cases e1;exact hf _ v y (hr.2 i _ v (List.getElem?_eq_getElem hi) e') e2
theorem zdb (hw:WRel G c w H){I:Nat→Prop}(hI:∀b,c.imm b→I b)(hO:∀b,Own c H b→I b):∀(n:Nat) {x y:AV} {v:Value},Rel c w x v→snap H n x=some y→Rel ⟨fun _=>none,I⟩ w y v
 | 0,x,y,v,_,h=>by simp[snap] at h
 | n + 1, x, y, v, hr, h => by
   have ih:∀x v y,Rel c w x v→snap H n x=some y→Rel ⟨fun _=>none,I⟩ w y v:=fun x v y a b=>zdb hw hI hO n a b
   have hbare:c.bare.le ⟨fun _=>none,I⟩:=⟨fun _ _ h=>(by cases h),hI⟩
   have triv:∀{z u},Rel c.bare w z u→Rel ⟨fun _=>none,I⟩ w z u:=fun h=>h.mono hbare (fun _ _=>rfl)
   cases hr with
   | @ptr _ _ k i off B hf =>
     simp only[snap] at h;cases hk:H.get k with
     | none=>rw[hk] at h;cases h
     | some o =>
       cases o with
       | sit _ _=>rw[hk] at h;cases h
       | lp _ _ _ _ _=>rw[hk] at h;cases h
       | mp _=>rw[hk] at h;cases h
       | mit _ _=>rw[hk] at h;cases h
       | arr sz es =>
         rw[hk] at h;dsimp only at h;cases he:es[i]? with
         | none=>rw[he] at h;cases h
         | some e =>
           rw[he] at h;dsimp only at h;cases hm:mapO (snap H n) (e.drop off) with
           | none=>rw[hm] at h;cases h
           | some cs =>
             rw[hm] at h;simp only[Option.some.injEq] at h;subst h;have hBsz:=(hw.sz hk hf).1;obtain ⟨us, h1, h2⟩ := zj1 (c := c) (w := w) (L := e.drop off) (a := ⟨B.b, B.s + (i * B.sz + off), none⟩) (fun p x hx=>by
              rw[List.getElem?_drop] at hx;obtain⟨v,v1,_,v2⟩:=hw.cell hk hf he hx;refine⟨v,?_,v2⟩;rw[zcm,← v1,hBsz]
              congr 2;omega)
             have h3:=zds hm h1 ih;exact Rel.rptr (hO _ ⟨k,_,B,hk,hf,rfl⟩) h3.1 h2 h3.2
   | @slc _ _ k i len sz cap B a hf hs hlen hcap =>
     simp only[snap] at h;cases hk:H.get k with
     | none=>rw[hk] at h;cases h
     | some o =>
       cases o with
       | sit _ _=>rw[hk] at h;cases h
       | lp _ _ _ _ _=>rw[hk] at h;cases h
       | mp _=>rw[hk] at h;cases h
       | mit _ _=>rw[hk] at h;cases h
       | arr sz' es =>
         rw[hk] at h;dsimp only at h;cases hq:(sz == sz' && Nat.ble (i+len) es.length) with
         | false=>rw[hq] at h;cases h
         | true =>
           rw[hq] at h;dsimp only at h;simp only[Bool.and_eq_true,beq_iff_eq] at hq;obtain⟨hq1,hq2⟩:=hq;have hq2:=Nat.le_of_ble_eq_true hq2;subst hq1;cases hm:mapO (mapO (snap H n)) ((es.drop i).take len) with
           | none=>rw[hm] at h;cases h
           | some es' =>
             rw[hm] at h;simp only[Option.some.injEq] at h;subst h;obtain⟨m1,m2⟩:=zhm hm;have hlen':((es.drop i).take len).length=len:=by simp;omega
             have hesl:es'.length=len:=by omega
             have hel:∀(j:Nat) e',es'[j]? = some e'→∃e,es[i+j]? = some e∧mapO (snap H n) e=some e':=by
              intro j e' he;have hj:j<((es.drop i).take len).length:=by have:=(List.getElem?_eq_some_iff.1 he).1;omega
              obtain⟨y',e1,e2⟩:=m2 j _ (List.getElem?_eq_getElem hj);rw[he] at e1;cases e1;exact⟨_,(zct i len j _ (List.getElem?_eq_getElem hj)).1,e2⟩
             have hsz:=(hw.sz hk hf).2.2;have hexv:∀(j q:Nat),∃v,∀e' x,es'[j]? = some e'→e'[q]? = some x→w.cell? (a.add (j * sz+q))=some v∧Rel ⟨fun _=>none,I⟩ w x v:=by
              intro j q;cases he:es'[j]? with
              | none=>exact⟨undef,fun e' x h=>by cases h⟩
              | some e' =>
                cases hx:e'[q]? with
                | none=>exact⟨undef,fun e'' x h1 h2=>by cases h1;rw[hx] at h2;cases h2⟩
                | some x' =>
                  obtain⟨e,e1,e2⟩:=hel j e' he;obtain⟨g1,g2⟩:=zhm e2;have hql:q<e.length:=by have:=(List.getElem?_eq_some_iff.1 hx).1;omega
                  obtain⟨y',y1,y2⟩:=g2 q _ (List.getElem?_eq_getElem hql);rw[hx] at y1;cases y1;obtain⟨v,v1,_,v2⟩:=hw.cell hk hf e1 (List.getElem?_eq_getElem hql);have hj:j<len:=by have:=(List.getElem?_eq_some_iff.1 he).1;omega
                  obtain⟨ha,_⟩:=hcap (by omega)
                  refine⟨v,fun e'' x h1 h2=>?_⟩
                  cases h1;rw[hx] at h2;cases h2;refine⟨?_,ih _ v _ v2 y2⟩;rw[ha,zcm,← v1]
                  congr 2
                  rw[Nat.add_mul];omega
             have := Rel.rsl (c := ⟨fun _ => none, I⟩) (w := w) (sz := sz) (es := es') (cap := cap) (a := a) (fun j q => (hexv j q).choose) (by omega) ?_ (fun j e' he=>by
              obtain⟨e,e1,e2⟩:=hel j e' he;rw [(zhm e2).1]; exact hsz _ e e1) (fun j q hj hq=>by
              have he:=List.getElem?_eq_getElem hj;obtain⟨e,e1,e2⟩:=hel j _ he;have hl:=(zhm e2).1;rw[hsz _ e e1] at hl;exact((hexv j q).choose_spec _ _ he (List.getElem?_eq_getElem (by omega))).1) (fun j q e' x he hx=>((hexv j q).choose_spec e' x he hx).2)
             · rw [hesl] at this
               exact this
             · intro hpos
               obtain⟨ha,_⟩:=hcap (by omega)
               rw[ha];exact hO _ ⟨k,_,B,hk,hf,rfl⟩
   | mapp hf=>simp[snap] at h
   | @mpo _ _ k B hf =>
     simp only[snap] at h;cases hk:H.get k with
     | none=>rw[hk] at h;cases h
     | some o =>
       cases o with
       | sit _ _=>rw[hk] at h;cases h
       | lp _ _ _ _ _=>rw[hk] at h;cases h
       | arr _ _=>rw[hk] at h;cases h
       | mit _ _=>rw[hk] at h;cases h
       | mp es =>
         rw[hk] at h;dsimp only at h;cases hm:mapO (entK (snap H n)) es with
         | none=>rw[hm] at h;cases h
         | some es' =>
           rw[hm] at h;simp only[Option.some.injEq] at h;subst h;obtain⟨B',hB',hBi,_,mes,clock,a1,a2,a3,f,a4,a5,a6⟩:=hw.obj k _ hk;rw[hf] at hB';cases hB';have hel:=zvj hm;have hkeys:es'.map (·.1)=es.map (·.1):=zq2 hm;refine .rmp f (hO _ ⟨k,_,B,hk,hf,rfl⟩) a1 a2 (by unfold RisK at a3 ⊢;rw[hkeys];exact a3) (fun j y hj=>?_) (fun e he=>?_) (fun j y hj=>?_)
           · obtain ⟨x, h1, h2⟩ := hel.1 j y hj
             exact a4 j x h1
           · obtain ⟨j, x, h1, h2⟩ := a5 e he
             obtain⟨y,h3⟩:=hel.2 j x h1;exact⟨j,y,h3,h2⟩
           · obtain ⟨x, h1, h2⟩ := hel.1 j y hj
             exact ih x _ y (a6 j x h1) h2
   | @fn _ _ f xs ys vs us h1 h2 hr1 hr2 =>
     simp only[snap] at h;cases hm1:mapO (snap H n) xs with
     | none=>rw[hm1] at h;cases h
     | some xs' =>
       cases hm2:mapO (snap H n) ys with
       | none=>rw[hm1,hm2] at h;cases h
       | some ys' =>
         rw[hm1,hm2] at h;simp only[Option.some.injEq] at h;subst h;have a1:=zds hm1 ⟨h1,hr1⟩ ih;have a2:=zds hm2 ⟨h2,hr2⟩ ih;exact Rel.fn f a1.1 a2.1 a1.2 a2.2
   | @ifc _ _ t y u hy =>
     simp only[snap] at h;cases hm:snap H n y with
     | none=>rw[hm] at h;cases h
     | some z =>
       rw[hm] at h;simp only[Option.some.injEq] at h;subst h;exact .ifc t (ih _ _ _ hy hm)
   | @agg _ _ cs vs hl hr =>
     simp only[snap] at h;cases hm:mapO (snap H n) cs with
     | none=>rw[hm] at h;cases h
     | some cs' =>
       rw[hm] at h;simp only[Option.some.injEq] at h;subst h;have a1:=zds hm ⟨hl,hr⟩ ih;exact Rel.agg a1.1 a1.2
   | @tup _ _ cs vs hl hr =>
     simp only[snap] at h;cases hm:mapO (snap H n) cs with
     | none=>rw[hm] at h;cases h
     | some cs' =>
       rw[hm] at h;simp only[Option.some.injEq] at h;subst h;have a1:=zds hm ⟨hl,hr⟩ ih;exact Rel.tup a1.1 a1.2
   | any v=>simp only[snap,Option.some.injEq] at h;subst h;exact .any v
   | bool b=>simp only[snap,Option.some.injEq] at h;subst h;exact .bool b
   | int k b=>simp only[snap,Option.some.injEq] at h;subst h;exact .int k b
   | str l=>simp only[snap,Option.some.injEq] at h;subst h;exact .str l
   | nilp=>simp only[snap,Option.some.injEq] at h;subst h;exact .nilp
   | rptr hi hl hc hr=>simp only[snap,Option.some.injEq] at h;subst h;exact .rptr (hI _ hi) hl hc (fun i x v e e'=>(hr i x v e e').mono ⟨fun _ _ h=>(by cases h),hI⟩ (fun _ _=>rfl))
   | nils=>simp only[snap,Option.some.injEq] at h;subst h;exact .nils
   | empt a=>simp only[snap,Option.some.injEq] at h;subst h;exact .empt a
   | rsl vs hlen hi hl hc hr=>simp only[snap,Option.some.injEq] at h;subst h;exact .rsl vs hlen (fun h=>hI _ (hi h)) hl hc (fun i j e x h1 h2=>(hr i j e x h1 h2).mono ⟨fun _ _ h=>(by cases h),hI⟩ (fun _ _=>rfl))
   | rnil sz=>simp only[snap,Option.some.injEq] at h;subst h;exact .rnil sz
   | emptn=>simp only[snap,Option.some.injEq] at h;subst h;exact .emptn
   | nilm=>simp only[snap,Option.some.injEq] at h;subst h;exact .nilm
   | rmp f hi hm hb hs hf he hr=>simp only[snap,Option.some.injEq] at h;subst h;exact .rmp f (hI _ hi) hm hb hs hf he (fun k x e=>(hr k x e).mono ⟨fun _ _ h=>(by cases h),hI⟩ (fun _ _=>rfl))
   | nilf=>simp only[snap,Option.some.injEq] at h;subst h;exact .nilf
   | nili=>simp only[snap,Option.some.injEq] at h;subst h;exact .nili
end
end Go.Ago
end
