/-
  Part 9: lemmas, each with its own conditions.
-/
import Derived.Test.YthaolifcglpkdaaGreatDoorA08
set_option maxRecDepth 100000
set_option maxHeartbeats 0
set_option linter.all false
section
namespace Go.Ago
def CallV (P:Program)(E:Env)(f:AV)(args:List AV)(H:zah)(v:AV)(rds:List Nat):Prop:=
 ∃g first cap args',f = .fn (.func g) first cap ∧
  ((mapO (snap H 20) (first ++ args ++ cap) = some args' ∧ (∀ x ∈ first ++ args ++ cap, ∀ k ∈ sids H 20 x, k ∈ rds) ∧ PC P E g args' (· = .ret v) ∧ v.flat = true) ∨
   (mapO (snap .nil 20) (first++args++cap)=some args'∧PC P E g args' (· = .ret v)))
theorem zye {P:Program}{E:Env}{g:FuncId}{first cap args args':List AV}{H:zah}{v:AV}(hs:mapO (snap .nil 20) (first++args++cap)=some args')(h:PC P E g args' (· = .ret v)) :
 CallV P E (.fn (.func g) first cap) args H v []:=⟨g,first,cap,args',rfl,.inr ⟨hs,h⟩⟩
theorem CallV.flat {P:Program}{E:Env}{g:FuncId}{first cap args args':List AV}{H:zah}{v:AV}(hs:mapO (snap H 20) (first++args++cap)=some args')(h:PC P E g args' (· = .ret v))(hv:v.flat=true) :
 CallV P E (.fn (.func g) first cap) args H v ((first++args++cap).flatMap (sids H 20)):=
 ⟨g,first,cap,args',rfl,.inl ⟨hs,fun x hx _ hk=>List.mem_flatMap.2 ⟨x,hx,hk⟩,h,hv⟩⟩
def yk4 (P:Program)(E:Env)(nm:Nat)(f:AV)(args:List AV)(v:AV)(up:List (Nat×Option AObj)):Prop:=
 ∃g first cap args' K0 sz es n,f = .fn (.func g) first cap∧mapO (snap .nil 20) (first++args++cap)=some args' ∧
  AC P E g args' .nil 0 (fun ae H' _=>ae = .ret (.slc K0 0 n sz)∧H'.get K0=some (.arr sz es))∧(∀(i:Nat) e,es[i]? = some e→∀(j:Nat) x,e[j]? = some x→zgv x=true) ∧
  v = .slc nm 0 n sz∧up=[(nm,some (.arr sz es))]∧nm+1<2 ^ 24
def runs (ops:List Oper)(S:St)(g:Option (Nat×Bool)):Option Bool:=
 match g with
 | none=>some true
 | some (j,want)=>zcx ops S j want
def act (P:Program)(E:Env)(nm:Nat)(o:Oper)(S:St)(d:DE):Prop:=
 match o.op with
 | .call { callee := .value f,args,.. }=>(CallV P E (S.ev E f) (args.toList.map (S.ev E)) S.heap d.val d.rds∧d.up=[])∨yk4 P E nm (S.ev E f) (args.toList.map (S.ev E)) d.val d.up
 | op=>(sem E nm (S.ev E) op).run S.heap=some (.inl ⟨d.val,d.up⟩)∧∀k∈(sem E nm (S.ev E) op).rds S.heap,k∈d.rds
def opOK (P:Program)(E:Env)(ops:List Oper)(nm:Nat)(o:Oper)(S:St)(d:DE):Prop:=
 zbw S o.dst=true∧((runs ops S o.guard=some true∧act P E nm o S d)∨(runs ops S o.guard=some false∧d.val = .tup []∧d.up=[]))
section
variable {P:Program} {E:Env}
theorem zy4 {E:Env}{nm:Nat}{ρ ρ':Operand→AV}(op:Op)(h:∀x∈op.operands,ρ x=ρ' x):sem E nm ρ op=sem E nm ρ' op:=by
 cases op<;>simp only[Op.operands] at h<;>try rfl
 case move x=>simp only[sem];rw[h x (by simp)]
 case makeMap t r=>cases r<;>rfl
 case lookup t x i ok=>simp only[sem];rw[h x (by simp),h i (by simp)]
 case mapUpdate t m k v=>simp only[sem];rw[h m (by simp),h k (by simp),h v (by simp)]
 case entry x=>simp only[sem];rw[h x (by simp)]
 case assign x=>simp only[sem];rw[h x (by simp)]
 case pick a b d=>simp only[sem];rw[h a (by simp),h b (by simp),h d (by simp)]
 case box t x=>simp only[sem];rw[h x (by simp)]
 case build t ps=>
  simp only[sem]
  congr 1
  apply List.map_congr_left
  intro p hp;rw[h p.2 (by simp only[List.mem_toArray,List.mem_map];exact⟨p,hp,rfl⟩)]
 case buildSlice t n ps=>
  simp only[sem]
  congr 1
  apply List.map_congr_left
  intro p hp;rw[h p.2 (by simp only[List.mem_toArray,List.mem_map];exact⟨p,hp,rfl⟩)]
 case load t a=>simp only[sem];rw[h a (by simp)]
 case store t a v=>simp only[sem];rw[h a (by simp),h v (by simp)]
 case nilCheck x=>simp only[sem];rw[h x (by simp)]
 case binOp op t x y t2=>simp only[sem];rw[h x (by simp),h y (by simp)]
 case unOp op t x=>simp only[sem];rw[h x (by simp)]
 case convert s d x=>simp only[sem];rw[h x (by simp)]
 case makeInterface t x=>simp only[sem];rw[h x (by simp)]
 case makeFunc f xs ys=>
  simp only[sem];have h1:xs.toList.map ρ=xs.toList.map ρ':=List.map_congr_left fun x hx=>h x (by simp only[Array.mem_append];exact .inl (by simpa using hx))
  have h2:ys.toList.map ρ=ys.toList.map ρ':=List.map_congr_left fun x hx=>h x (by simp only[Array.mem_append];exact .inr (by simpa using hx))
  rw[h1,h2]
 case makeSlice t l k=>simp only[sem];rw[h l (by simp),h k (by simp)]
 case slice t x lo hi mx=>
  simp only[sem];have hopt:∀(o:Option Operand),(∀y,o=some y→ρ y=ρ' y)→o.map ρ=o.map ρ':=by
   intro o ho;cases o with
   | none=>rfl
   | some y=>simp[ho y rfl]
  rw[h x (by simp),hopt lo (fun y e=>h y (by simp[e])),hopt hi (fun y e=>h y (by simp[e])),hopt mx (fun y e=>h y (by simp[e]))]
 case fieldAddr t x f=>simp only[sem];rw[h x (by simp)]
 case range t x=>simp only[sem];rw[h x (by simp)]
 case next x b=>simp only[sem];rw[h x (by simp)]
 case field t x f=>simp only[sem];rw[h x (by simp)]
 case indexAddr t x i=>simp only[sem];rw[h x (by simp),h i (by simp)]
 case index t x i=>simp only[sem];rw[h x (by simp),h i (by simp)]
 case typeAssert x st t ok=>simp only[sem];rw[h x (by simp)]
 case extract x i=>simp only[sem];rw[h x (by simp)]
 case panic x=>simp only[sem];rw[h x (by simp)]
 case call cl=>
  obtain⟨callee,args,ts⟩:=cl;cases callee<;>try rfl
  simp only[sem];have h1:args.toList.map ρ=args.toList.map ρ':=List.map_congr_left fun x hx=>h x (by simp only[Call.operands,Array.mem_append];exact .inr (by simpa using hx))
  rw[h1]
theorem yex {S S':St}(x:Operand)(h:∀t,x = .tmp t→S'.slots.get t=S.slots.get t):S'.ev E x=S.ev E x:=by
 cases x with
 | tmp t=>simp only[St.ev];rw[h t rfl]
 | _=>rfl
theorem zxd {ops:Array Oper}{nm:Nat}{o:Oper}{S S':St}{d:DE}(h:opOK P E ops.toList nm o S d)(hn:S'.nsl=S.nsl)(hs:∀t∈Oper.looksAt ops o,S'.slots.get t=S.slots.get t)(hh:∀k∈d.rds,S'.heap.get k=S.heap.get k) :
 opOK P E ops.toList nm o S' d:=by
 obtain⟨h1,h2⟩:=h;have hev : ∀ x ∈ o.op.operands, S'.ev E x = S.ev E x := fun x hx => yex x fun t ht => hs t (by
  subst ht;unfold Oper.looksAt;rw[List.mem_append];left;rw[List.mem_filterMap];exact⟨.tmp t,by simpa using hx,rfl⟩)
 have hrun:runs ops.toList S' o.guard=runs ops.toList S o.guard:=by
  unfold runs;cases hg:o.guard with
  | none=>rfl
  | some q =>
    obtain⟨j,want⟩:=q;have:zcx ops.toList S' j want=zcx ops.toList S j want:=by
     unfold zcx;cases e1:ops.toList[j]? with
     | none=>rfl
     | some oj =>
       dsimp only;cases e2:oj.dst with
       | none=>rfl
       | some t =>
         dsimp only;rw [hs t (by
          unfold Oper.looksAt;rw[List.mem_append];right;have e1':ops[j]? = some oj:=by simpa using e1
          simp[hg,e1',e2])]
    dsimp only;rw[this]
 refine⟨?_,?_⟩
 · cases hd : o.dst with
   | none=>rfl
   | some t=>rw[hd] at h1;simp only[zbw] at h1 ⊢;rw[hn];exact h1
 · rw [hrun]
   refine h2.ip (fun ⟨e1,e2⟩=>⟨e1,?_⟩) id
   unfold act at e2 ⊢;split at e2
   · rename_i f args ts hop
     rw[hop] at hev;have hf:=hev f (by simp[Op.operands,Call.operands])
     have ha:args.toList.map (S'.ev E)=args.toList.map (S.ev E):=List.map_congr_left fun x hx=>hev x (by simp only[Op.operands,Call.operands,Array.mem_append];exact .inr (by simpa using hx))
     rw[hf,ha];rcases e2 with e2|e2
     case inr=>exact .inr e2
     refine .inl ⟨?_,e2.2⟩;obtain⟨g,first,cap,args',q1,q2⟩:=e2.1;refine⟨g,first,cap,args',q1,q2.ip (fun ⟨r1,r2,r3,r4⟩=>⟨?_,?_,r3,r4⟩) id⟩
     · rw [← r1]
       exact zfi fun x hx=>zns 20 fun k hk=>hh k (r2 x hx k hk)
     · intro x hx k hk
       rw[zg9 20 (fun k hk=>hh k (r2 x hx k hk))] at hk
       exact r2 x hx k hk
   · have hc : sem E nm (S'.ev E) o.op = sem E nm (S.ev E) o.op := zy4 o.op hev
     rw[hc];have hl:=Rd.run_local (r:=sem E nm (S.ev E) o.op) (fun k hk=>hh k (e2.2 k hk))
     refine⟨hl.trans e2.1,fun k hk=>?_⟩
     rw[Rd.rds_local (fun k hk=>hh k (e2.2 k hk))] at hk
     exact e2.2 k hk
structure MidD (P:Program)(E:Env)(m:Nat)(c0:Ctx)(a0:Act)(w0:World)(S0:St)(base n:Nat)(D:Nat→Bool)(c:Ctx)(S:St)(a:Act)(w:World):Prop where
 ext:ExtA m c0 a0 w0 S0.heap c a w S.heap
 nxt:S.next=base+n
 mlo:m≤base
 sim:Sim P E c S a w
 free:∀j,j<n→D j=false→c.f (base+j)=none
variable {m base n:Nat} {c0 c:Ctx} {w0 w:World} {S0 S:St} {K:AX→St→Prop} {a0 a:Act} {D:Nat→Bool}
theorem zz1 (hE:EnvOK P E){ops:Array Oper}{i:Nat}{o:Oper}{d:DE}(ho:ops[i]? = some o)(hin:i<n)(hD:D i=false)(h:opOK P E ops.toList (base+i) o S d)(hm:MidD P E m c0 a0 w0 S0 base n D c S a w){r:Option Nat}{N:Act→World→Prop}
 (hN:∀c' a' w',MidD P E m c0 a0 w0 S0 base n (fun j=>j == i || D j) c' (S.app o d) a' w'→N a' w'):wpOpIn (FR r) 0 P ops (QS P E m c0 a0 w0 S0 K) i N a w:=by
 obtain⟨hd,h⟩:=h;unfold wpOpIn;rw[ho];dsimp only;have hwant:∀b,runs ops.toList S o.guard=some b→Region.wanted o (yielded ops a.tmps)=b:=by
  intro b hb;unfold runs at hb;cases hg:o.guard with
  | none =>
    rw[hg] at hb;simp only[Option.some.injEq] at hb;subst hb;simp[Region.wanted,hg]
  | some q =>
    obtain⟨j,want⟩:=q;rw[hg] at hb;dsimp only at hb;exact zkd hm.sim hg hb
 have hfree:c.f (base+i)=none:=hm.free i hin hD;rcases h with⟨hr,hact⟩|⟨hr,hval,hup⟩
 · rw [hwant _ hr, if_pos rfl]
   unfold act at hact;split at hact
   · rename_i f args ts hop
     rcases hact with hact|hact
     case inr=>
      obtain⟨g,first,cap,args',K0,sz,es,len,hf,hs,⟨hok,hac⟩,hfl,hval,hup,hnm24⟩:=hact;have hfr:=hm.sim.ev f;rw[hf] at hfr
      generalize hfv:a.eval f=fv at hfr
      cases hfr with
      | @fn _ _ _ _ _ vs us h1 h2 hr1 hr2 =>
        have hargs:=zfz hm.sim.ev args.toList;have hall:RelL c w (first++args.toList.map (S.ev E)++cap) (vs++args.toList.map a.eval++us):=((RelL.append ⟨h1,hr1⟩ hargs).append ⟨h2,hr2⟩);have hr':=zds (c':=c.bare) hs hall (fun x v y=>zdb hm.sim.wrel.noown (fun b hb=>hb) (fun b hb=>(zeo hb).elim) 20)
        have hcalls:=hac c.bare w _ hm.sim.wrel.empty (fun _ _=>rfl) hr'
        have hrun:(execOp a.eval o).run P w = .ok (.enter g (vs++args.toList.map a.eval++us).toArray) w:=by
         have e:vs.toArray++args.map a.eval++us.toArray=(vs++args.toList.map a.eval++us).toArray:=by
          apply Array.ext';simp
         simp only[execOp,hop,resolve,hfv,Deferred.ofValue,Sem.run_bind,Sem.run_pure,Result.andThen_ok,invoke,zdl hok,e]
        refine zp2 (fun c e=>by rw[hop] at e;cases e) (fun row args w'' e=>by rw[hrun] at e;cases e) ?_
        unfold Oper.wp;rw[hrun];refine hcalls.mono ?_
        rintro e w' ⟨c1,H1,nx1,ae,hext,hw1,_,_,her,rfl,hk0⟩
        obtain⟨c',B,hB,hnmB,hoth,hextm,hw'⟩:=hm.sim.wrel.adopt hfree hnm24 hext hw1 hk0 hfl;have hle:c.le c':=⟨fun k p e=>by
         by_cases hk:k=base+i
         · subst hk;rw[hfree] at e;cases e
         · rw[hoth k hk];exact e,(hextm 0 (Nat.zero_le _)).imm⟩
        have hx:∀{x v},Rel c w x v→Rel c' w' x v:=fun hr=>hr.mono hle (fun b hb=>hext.other b (hm.sim.wrel.imm_lt b hb) zeo)
        have e2:S.app o d=S.put o.dst d.val (S.heap.set 24 (base+i) (some (.arr sz es))) S.next:=by simp[St.app,hup,Eff.upd]
        cases e with
        | returned v =>
          have hv:Rel c' w' d.val v:=by
           rw[hval];cases her with
           | slc q1 q2 q3 q4=>rw[hB] at q1;cases q1;exact .slc hnmB q2 q3 q4
          refine hN c' _ w' ⟨?_,hm.nxt,hm.mlo,?_,fun j hj hDj=>?_⟩
          · rw[e2];exact hm.ext.thenM (hextm m (by have:=hm.mlo;omega)) (zco ..)
          · rw [e2]
            exact hm.sim.put ((hextm 0 (Nat.zero_le _)).defs hm.sim.wrel hm.sim.defers) hx hw' (fun k hk=>by rw[hoth k (by have:=hm.nxt;omega)];exact hm.sim.fresh k hk) hd hv
          · simp only [Bool.or_eq_false_iff, beq_eq_false_iff_ne, ne_eq] at hDj
            rw[hoth _ (by omega)];exact hm.free j hj hDj.2
        | panicked _=>exact her.elim
        | outgrown=>exact her.elim
     obtain⟨⟨g,first,cap,args',hf,hcall⟩,hup⟩:=hact;have hfr:=hm.sim.ev f;rw[hf] at hfr
     generalize hfv:a.eval f=fv at hfr
     cases hfr with
     | @fn _ _ _ _ _ vs us h1 h2 hr1 hr2 =>
       have hac:AC P E g (first++args.toList.map (S.ev E)++cap) S.heap S.next fun ae H' nx'=>ae = .ret d.val∧H'=S.heap∧nx'=S.next:=by
        rcases hcall with⟨q1,_,q3,q4⟩|⟨q1,q3⟩
        · exact AC.flat q1 q3 fun ae hae=>⟨by subst hae;exact q4,hae,rfl,rfl⟩
        · exact ydb q1 q3 fun ae hae=>⟨hae,rfl,rfl⟩
       obtain⟨hok,hac⟩:=hac;have hargs:=zfz hm.sim.ev args.toList;have hall:RelL c w (first++args.toList.map (S.ev E)++cap) (vs++args.toList.map a.eval++us):=((RelL.append ⟨h1,hr1⟩ hargs).append ⟨h2,hr2⟩);have hcalls:=hac c w _ hm.sim.wrel hm.sim.fresh hall;have hrun:(execOp a.eval o).run P w = .ok (.enter g (vs++args.toList.map a.eval++us).toArray) w:=by
        have e:vs.toArray++args.map a.eval++us.toArray=(vs++args.toList.map a.eval++us).toArray:=by
         apply Array.ext';simp
        simp only[execOp,hop,resolve,hfv,Deferred.ofValue,Sem.run_bind,Sem.run_pure,Result.andThen_ok,invoke,zdl hok,e]
       refine zp2 (fun c e=>by rw[hop] at e;cases e) (fun row args w'' e=>by rw[hrun] at e;cases e) ?_
       unfold Oper.wp;rw[hrun];refine hcalls.mono ?_
       rintro e w' ⟨c',H',nx',ae,hext,hw',hnx,hfr',her,rfl,rfl,rfl⟩
       have hff:∀k,c'.f k=c.f k:=fun k=>by
        by_cases hk:k<S.next
        · exact hext.f k hk
        · rw[hfr' k (by omega),hm.sim.fresh k (by omega)]
       have hle:c.le c':=⟨fun k p e=>by rw[hff];exact e,hext.imm⟩
       have hx:∀{x v},Rel c w x v→Rel c' w' x v:=fun hr=>hr.mono hle (fun b hb=>hext.other b (hm.sim.wrel.imm_lt b hb) (hm.sim.wrel.not_own hb))
       cases e with
       | returned v =>
         refine hN c' _ w' ⟨?_,hm.nxt,hm.mlo,?_,fun j hj hDj=>by rw[hff];exact hm.free j hj (by simp only[Bool.or_eq_false_iff] at hDj;exact hDj.2)⟩
         · have : (S.app o d).heap = S.heap := by simp [St.app, St.put, hup, Eff.upd]
           rw[this];exact hm.ext.thenM (hext.less (by have:=hm.mlo;have:=hm.nxt;omega)) (zco ..)
         · have := hm.sim.put (hext.defs hm.sim.wrel hm.sim.defers) hx hw' hfr' hd her
           have e2:S.app o d=S.put o.dst d.val S.heap S.next:=by simp[St.app,hup,Eff.upd]
           rw[e2];exact this
       | panicked _=>exact her.elim
       | outgrown=>exact her.elim
   · rename_i hop
     have hnd:∀c,o.op≠.defer c:=fun c e=>by have h1:=hact.1;rw[e] at h1;cases h1
     obtain⟨nx,w',c',hrun,hext,hw',hf,hv⟩:=zlv hE hm.sim.wrel hfree hm.sim.ev o hact.1;refine zp2 hnd (fun row args w'' e=>?_) ?_
     · rw[hrun] at e;rcases hv with⟨v,rfl,_⟩|⟨rfl,_⟩<;>cases e
     unfold Oper.wp;rw[hrun];have hx:∀{x v},Rel c w x v→Rel c' w' x v:=fun hr=>hext.rel hm.sim.wrel hr
     have mid:∀v,Rel c' w' d.val v→MidD P E m c0 a0 w0 S0 base n (fun j=>j == i || D j) c' (S.app o d) (a.put o.dst v) w':=fun v hv=>
      ⟨hm.ext.thenM (hext.toM fun k hk=>hf k (by have:=hm.mlo;omega)) (zco ..),hm.nxt,hm.mlo,
       hm.sim.put (hext.defs hm.sim.wrel hm.sim.defers) hx hw' (fun k hk=>by rw[hf k (by have:=hm.nxt;omega)];exact hm.sim.fresh k hk) hd hv,
       fun j hj hDj=>by
        simp only[Bool.or_eq_false_iff,beq_eq_false_iff_ne,ne_eq] at hDj;rw[hf _ (by omega)];exact hm.free j hj hDj.2⟩
     rcases hv with⟨v,rfl,hv⟩|⟨rfl,hany⟩
     · exact hN _ _ _ (mid v hv)
     · exact hN _ _ _ (mid undef (by rw[show d.val=AV.any from hany];exact .any _))
 · rw [hwant _ hr, if_neg (by simp)]
   refine⟨fun _ _=>trivial,hN c _ w ⟨?_,hm.nxt,hm.mlo,?_,fun j hj hDj=>hm.free j hj (by simp only[Bool.or_eq_false_iff] at hDj;exact hDj.2)⟩⟩
   · have : (S.app o d).heap = S.heap := by simp [St.app, St.put, hup, Eff.upd]
     rw[this];exact hm.ext.thenM (ExtM.refl ..) (zco ..)
   · have := hm.sim.put hm.sim.defers (fun h => h) hm.sim.wrel hm.sim.fresh hd zqm
     have e2:S.app o d=S.put o.dst (.tup []) S.heap S.next:=by simp[St.app,hup,hval,Eff.upd]
     rw[e2];exact this
end
end Go.Ago
end
section
namespace Go.Ago
def disj (a b:List Nat):Bool:=a.all fun x=>!b.contains x
def chk (masks:List Nat)(i:Nat)(d:DE)(acc:List (Nat×List Nat×List Nat)):Bool:=
 (d.up.all fun p=>Nat.ble (p.1+2) 16777216) && acc.all fun (j,r,k)=>comp masks i j || (disj d.keys r && disj d.keys k && disj k d.rds)
def dop (P:Program)(E:Env)(nm:Nat)(o:Oper)(S:St)(next:DE→Prop):Prop:=
 zbw S o.dst=true∧match o.op with
  | .call { callee := .value f,args,.. }=>(∃v rds,CallV P E (S.ev E f) (args.toList.map (S.ev E)) S.heap v rds∧next ⟨v,[],rds⟩)∨∃v up,yk4 P E nm (S.ev E f) (args.toList.map (S.ev E)) v up∧next ⟨v,up,[]⟩
  | op=>(sem E nm (S.ev E) op).holdsR S.heap (fun eff l=>next ⟨eff.val,eff.up,l⟩) []
def awD (P:Program)(E:Env)(ops:List Oper)(base:Nat)(masks:List Nat)(K:St→Prop):List Oper→Nat→St→List (Nat×List Nat×List Nat)→Prop
 | [],_,S,_=>K S
 | o::rest,i,S,acc=>gate ops S o.guard
  (dop P E (base+i) o S fun d=>chk masks i d acc=true∧awD P E ops base masks K rest (i+1) (S.app o d) ((i,d.rds,d.keys)::acc))
  (zbw S o.dst=true∧awD P E ops base masks K rest (i+1) (S.app o ⟨.tup [],[],[]⟩) ((i,[],[])::acc))
section
variable {P:Program} {E:Env} {ops:Array Oper} {base:Nat} {masks:List Nat} {K:St→Prop} {S0:St}
structure Fact (P:Program)(E:Env)(ops:Array Oper)(base:Nat)(masks:List Nat)(S0:St)(ds:List DE)(i:Nat):Prop where
 ok:∃o d Si,ops[i]? = some o∧ds[i]? = some d∧At ops ds S0 (fun j=>Nat.blt j i) Si∧opOK P E ops.toList (base+i) o Si d
 small:∀d,ds[i]? = some d→∀p∈d.up,p.1+1<2 ^ 24
 apart:∀d,ds[i]? = some d→∀(j:Nat) e,j<i→ds[j]? = some e→comp masks i j=true∨(disj d.keys e.rds=true∧disj d.keys e.keys=true∧disj e.keys d.rds=true)
theorem At.ext {ds ds':List DE}{S:St}{i:Nat}(h:At ops ds S0 (fun j=>Nat.blt j i) S)(he:∀j,j<i→ds'[j]? = ds[j]?):At ops ds' S0 (fun j=>Nat.blt j i) S:=by
 have key:∀{V:Type} (wv wv':Nat→Option V) (n:Nat) (v:V),(∀j,j<i→wv j=wv' j)→zdm wv (fun j=>Nat.blt j i) n v=zdm wv' (fun j=>Nat.blt j i) n v:=by
  intro V wv wv' n v hw
  induction n with
  | zero=>rfl
  | succ n ih =>
    simp only[zdm]
    by_cases hb:Nat.blt n i=true
    · have : n < i := by simpa using hb
      rw[hw n this,ih]
    · simp only[hb,Bool.false_eq_true,if_false];exact ih
 exact⟨h.nsl,h.next,fun t=>(h.slots t).trans (key _ _ _ _ fun j hj=>by simp only[putS];rw[he j hj]),fun k=>(h.heap k).trans (key _ _ _ _ fun j hj=>by simp only[putH];rw[he j hj])⟩
theorem At.next_ {ds:List DE}{S:St}{i:Nat}{o:Oper}{d:DE}(h:At ops ds S0 (fun j=>Nat.blt j i) S)(ho:ops[i]? = some o)(hd:ds[i]? = some d)(hdst:zbw S o.dst=true)(hsm:∀p∈d.up,p.1+1<2 ^ 24) :
 At ops ds S0 (fun j=>Nat.blt j (i+1)) (S.app o d):=by
 have hin:i<ops.size:=(Array.getElem?_eq_some_iff.1 ho).1;have hD:∀j,j<ops.size→(j == i || Nat.blt j i)=Nat.blt j (i+1):=by
  intro j _;rw[Bool.eq_iff_iff];simp;omega
 have hvac:∀j,i<j→Nat.blt j i=true→False:=by
  intro j hj hb;have:j<i:=by simpa using hb
  omega
 refine At.congr (D:=fun j=>j == i || Nat.blt j i) ⟨h.nsl,h.next,fun t=>?_,fun k=>?_⟩ hD
 · rw [zr3 hdst, zfk ops.size _ hin (fun j hj _ hb _ => (hvac j hj hb).elim), ← h.slots t]
   simp only[putS,ho,hd]
   by_cases e:o.dst=some t<;>simp[e]
 · show (Eff.upd S.heap d.up).get k = _
   rw[zso _ _ _ hsm,zfk ops.size _ hin (fun j hj _ hb _=>(hvac j hj hb).elim),← h.heap k]
   simp only[putH,hd];cases znd d.up k<;>rfl
theorem Fact.ext {ds ds':List DE}{i:Nat}(h:Fact P E ops base masks S0 ds i)(he:∀j,j≤i→ds'[j]? = ds[j]?):Fact P E ops base masks S0 ds' i:=by
 obtain⟨⟨o,d,Si,h1,h2,h3,h4⟩,h5,h6⟩:=h;refine⟨⟨o,d,Si,h1,(he i (Nat.le_refl _)).trans h2,h3.ext fun j hj=>he j (by omega),h4⟩,fun d hd=>h5 d ((he i (Nat.le_refl _)).symm.trans hd),fun d hd j e hj hje=>h6 d ((he i (Nat.le_refl _)).symm.trans hd) j e hj ((he j (by omega)).symm.trans hje)⟩
theorem you {nm:Nat}{o:Oper}{S:St}{next:DE→Prop}(h:dop P E nm o S next):zbw S o.dst=true∧∃d,act P E nm o S d∧next d:=by
 obtain⟨h1,h2⟩:=h;refine⟨h1,?_⟩;split at h2
 · rename_i f args ts hop
   rcases h2 with⟨v,rds,h3,h4⟩|⟨v,up,h3,h4⟩
   · refine ⟨⟨v, [], rds⟩, ?_, h4⟩
     unfold act;rw[hop];exact .inl ⟨h3,rfl⟩
   · refine ⟨⟨v, up, []⟩, ?_, h4⟩
     unfold act;rw[hop];exact .inr h3
 · rename_i hop
   obtain⟨e,l',h3,h4,_,h5⟩:=Rd.holdsR_run h2;refine⟨⟨e.val,e.up,l'⟩,?_,h5⟩;unfold act;split
   · rename_i f args ts h'
     exact(hop _ _ _ h').elim
   · exact⟨h3,h4⟩
def Over (P:Program)(E:Env)(ops:Array Oper)(base:Nat)(masks:List Nat)(K:St→Prop)(S0:St)(i:Nat)(pre:List DE):Prop:=
 ∃ds SE,ds.length=ops.size∧(∀j,j<i→ds[j]? = pre[j]?)∧(∀k,i≤k→k<ops.size→Fact P E ops base masks S0 ds k)∧At ops ds S0 (fun j=>Nat.blt j ops.size) SE∧K SE
theorem zr0:∀(rest:List Oper) (i:Nat) (S:St) (acc:List (Nat×List Nat×List Nat)) (pre:List DE),ops.toList.drop i=rest→pre.length=i→(∀(j:Nat) d,pre[j]? = some d→(j,d.rds,d.keys)∈acc) →
 At ops pre S0 (fun j=>Nat.blt j i) S→i≤ops.size→awD P E ops.toList base masks K rest i S acc→Over P E ops base masks K S0 i pre
 | [], i, S, acc, pre, hd, hp, _, hA, hle, h => by
   have hi:ops.size=i:=by
    have:=congrArg List.length hd;simp at this;omega
   refine⟨pre,S,by omega,fun j hj=>rfl,fun k h1 h2=>by omega,?_,h⟩
   rw[hi];exact hA
 | o :: rest, i, S, acc, pre, hd, hp, hacc, hA, _, h => by
   have hi:i<ops.size:=by
    have:=congrArg List.length hd;simp at this;omega
   have ho:ops[i]? = some o:=by
    have:(ops.toList.drop i)[0]? = some o:=by rw[hd];rfl
    simpa using this
   have hd':ops.toList.drop (i+1)=rest:=by
    rw[← List.drop_drop,hd];rfl
   
   have go:∀d,opOK P E ops.toList (base+i) o S d→chk masks i d acc=true→awD P E ops.toList base masks K rest (i+1) (S.app o d) ((i,d.rds,d.keys)::acc)→Over P E ops base masks K S0 i pre:=by
    intro d hok hchk hrest;have hpre:∀j,j<i→(pre++[d])[j]? = pre[j]?:=fun j hj=>List.getElem?_append_left (by omega)
    have hdi:(pre++[d])[i]? = some d:=by rw[List.getElem?_append_right (by omega),hp];simp
    simp only[chk,Bool.and_eq_true] at hchk;have hsm:∀p∈d.up,p.1+1<2 ^ 24:=fun p hp=>by
     have:=List.all_eq_true.1 hchk.1 p hp;have:=Nat.le_of_ble_eq_true this;omega
    have hA':=hA.ext hpre;obtain ⟨ds, SE, e1, e2, e3, e4, e5⟩ := zr0 rest (i + 1) (S.app o d) _ (pre ++ [d]) hd' (by simp [hp]) (fun j e hj=>by
     by_cases hji:j<i
     · rw [hpre j hji] at hj
       exact List.mem_cons_of_mem _ (hacc j e hj)
     · have hj':j=i:=by
        have:=(List.getElem?_eq_some_iff.1 hj).1;simp at this;omega
       subst hj';rw[hdi] at hj;cases hj;simp) (hA'.next_ ho hdi hok.1 hsm) (by omega) hrest
    refine⟨ds,SE,e1,fun j hj=>(e2 j (by omega)).trans (hpre j hj),fun k h1 h2=>?_,e4,e5⟩
    by_cases hk:k=i
    · subst hk
      have hf:Fact P E ops base masks S0 (pre++[d]) k:=by
       refine⟨⟨o,d,S,ho,hdi,hA',hok⟩,fun d' hd'=>?_,fun d' hd' j e hj hje=>?_⟩
       · rw[hdi] at hd';cases hd';exact hsm
       · rw [hdi] at hd'; cases hd'
         rw[hpre j hj] at hje;have:=List.all_eq_true.1 hchk.2 _ (hacc j e hje);simp only[Bool.or_eq_true,Bool.and_eq_true] at this;rcases this with h|h
         · exact .inl h
         · exact .inr ⟨h.1.1,h.1.2,h.2⟩
      exact hf.ext fun j hj=>e2 j (by omega)
    · exact e3 k (by omega) h2
   have hrn:runs ops.toList S o.guard=some true→dop P E (base+i) o S (fun d=>chk masks i d acc=true∧awD P E ops.toList base masks K rest (i+1) (S.app o d) ((i,d.rds,d.keys)::acc))→Over P E ops base masks K S0 i pre:=fun hr h=>by
    obtain⟨h1,d,h2,h3,h4⟩:=you h;exact go d ⟨h1,.inl ⟨hr,h2⟩⟩ h3 h4
   have hsk:runs ops.toList S o.guard=some false→zbw S o.dst=true∧awD P E ops.toList base masks K rest (i+1) (S.app o ⟨.tup [],[],[]⟩) ((i,[],[])::acc)→Over P E ops base masks K S0 i pre:=fun hr h=>
    go ⟨.tup [],[],[]⟩ ⟨h.1,.inr ⟨hr,rfl,rfl⟩⟩ (by simp[chk,DE.keys,disj]) h.2
   simp only[awD,gate] at h;cases hg:o.guard with
   | none =>
     rw[hg] at h;exact hrn (by rw[hg];rfl) h
   | some q =>
     obtain⟨j,want⟩:=q;rw[hg] at h;dsimp only at h;cases hv:zcx ops.toList S j want with
     | none=>rw[hv] at h;exact h.elim
     | some b =>
       rw[hv] at h;cases hb:b with
       | true=>exact hrn (by rw[hg];simp only[runs,hv,hb]) (h.1 hb)
       | false=>exact hsk (by rw[hg];simp only[runs,hv,hb]) (h.2 hb)
theorem zj2:∀(l:List Oper) (i:Nat),zgy l i=true→∀(j:Nat) o,l[j]? = some o→∀e∈o.after,Region.binds .any e=true→e.on<i+j
 | [],_,_,j,o,ho=>by simp at ho
 | x :: l, i, h, j, o, ho => by
   simp only[zgy,Bool.and_eq_true] at h;intro e he hb;cases j with
   | zero =>
     simp at ho;subst ho;have:=List.all_eq_true.1 h.1 e (by simpa using he)
     simp only[hb,Bool.not_true,Bool.false_or] at this;have:e.on<i:=by simpa using this
     omega
   | succ j =>
     have:=zj2 l (i+1) h.2 j o (by simpa using ho) e he hb
     omega
theorem zny (h:zgy ops.toList 0=true):∀{i j:Nat},Reach ops i j→j<i:=by
 intro i j hr
 induction hr with
 | one ho he hb=>have:=zj2 ops.toList 0 h _ _ (by simpa using ho) _ he hb;omega
 | more ho he hb _ ih=>have:=zj2 ops.toList 0 h _ _ (by simpa using ho) _ he hb;omega
theorem zlk {a b:List Nat}(h:disj a b=true){x:Nat}(ha:x∈a)(hb:x∈b):False:=by
 have:=List.all_eq_true.1 h x ha;simp at this;exact this hb
theorem yjg (he:zgy ops.toList 0=true)(hs:zo1 ops (befs ops.toList [])=true){ds:List DE}(hl:ds.length=ops.size)(hf:∀k,k<ops.size→Fact P E ops base (befs ops.toList []) S0 ds k):Free ops ds:=by
 refine⟨hl,fun i d hd p hp=>(hf i (by have:=(List.getElem?_eq_some_iff.1 hd).1;omega)).small d hd p hp,fun i j x y t hi hj hne hx hy=>?_,fun i j d e k hd hde hne hk hke=>?_,fun i j h=>zny he h⟩
 · have hin := (Array.getElem?_eq_some_iff.1 hi).1
   have hjn:=(Array.getElem?_eq_some_iff.1 hj).1;have h1:=List.all_eq_true.1 (List.all_eq_true.1 hs i (List.mem_range.2 hin)) j (List.mem_range.2 hjn);simp only[hi,hj,hx,Bool.or_eq_true,beq_iff_eq,Bool.and_eq_true] at h1;rcases h1 with(h1|h1)|⟨h1,h2⟩
   · exact absurd h1 hne
   · exact zj3 h1
   · exfalso
     rcases hy with hy|hy
     · simp at h1;exact h1 hy
     · simp[hy] at h2
 · have hin : i < ops.size := by have := (List.getElem?_eq_some_iff.1 hd).1; omega
   have hjn:j<ops.size:=by have:=(List.getElem?_eq_some_iff.1 hde).1;omega
   rcases Nat.lt_or_gt_of_ne hne with hlt|hlt
   · rcases (hf j hjn).apart e hde i d hlt hd with h | ⟨h1, h2, h3⟩
     · exact(zj3 h).symm
     · exfalso
       rcases hke with hke|hke
       · exact zlk h3 hk hke
       · exact zlk h2 hke hk
   · rcases (hf i hin).apart d hd j e hlt hde with h | ⟨h1, h2, h3⟩
     · exact zj3 h
     · exfalso
       rcases hke with hke|hke
       · exact zlk h1 hk hke
       · exact zlk h2 hk hke
theorem Sim.congr {c:Ctx}{S S':St}{a:Act}{w:World}(h:Sim P E c S a w)(hn:S'.nsl=S.nsl)(hx:S'.next=S.next)(hs:∀t,S'.slots.get t=S.slots.get t)(hh:∀k,S'.heap.get k=S.heap.get k):Sim P E c S' a w:=
 ⟨h.size.trans hn.symm,fun t x e=>h.slots t x (by rw[← hs];exact e),h.defers,h.wrel.congr hh,fun k hk=>h.fresh k (by rw[← hx];exact hk)⟩
theorem ygw {p p':Nat→Bool}(hp:∀j,p' j=true→p j=true):∀(l:List Nat),(l.filter p').length≤(l.filter p).length
 | []=>Nat.le_refl _
 | x :: l => by
   have ih:=ygw hp l;simp only[List.filter_cons]
   by_cases h:p' x=true
   · rw[if_pos h,if_pos (hp x h)];simpa using ih
   · rw [if_neg h]
     by_cases h2:p x=true
     · rw[if_pos h2];simp;omega
     · rw[if_neg h2];exact ih
theorem ygv {p p':Nat→Bool}{i:Nat}(hp:∀j,p' j=true→p j=true)(h1:p i=true)(h2:p' i=false):∀(l:List Nat),i∈l→(l.filter p').length<(l.filter p).length
 | [],h=>by simp at h
 | x :: l, h => by
   simp only[List.filter_cons]
   by_cases hx:x=i
   · subst hx
     rw[if_neg (by simp[h2]),if_pos h1]
     have:=ygw hp l;simp;omega
   · have hi:i∈l:=by
      rcases List.mem_cons.1 h with h|h
      · exact absurd h.symm hx
      · exact h
     have ih:=ygv hp h1 h2 l hi
     by_cases h3:p' x=true
     · rw[if_pos h3,if_pos (hp x h3)];simpa using ih
     · rw [if_neg h3]
       by_cases h4:p x=true
       · rw[if_pos h4];simp;omega
       · rw[if_neg h4];exact ih
theorem ExtM.congr {m:Nat}{c c':Ctx}{w w':World}{H H' K':zah}(h:ExtM m c w H c' w' H')(he:∀j,K'.get j=H'.get j):ExtM m c w H c' w' K':=
 { h with own:=fun b hb=>h.own b (Own.congr (fun j=>(he j).symm) hb) }
theorem yc2 {rr:Bool}(hE:EnvOK P E)(hmix:P.follows .mixedOrders=true){id:Nat}{K:AX→St→Prop}{S:St}(he:zgy ops.toList 0=true)(hs:zo1 ops (befs ops.toList [])=true)
 (h:awD P E ops.toList S.next (befs ops.toList []) (K .normal) ops.toList 0 { S with next:=S.next+ops.size } []):SW P E rr (.region id ops true) K S:=by
 intro r hrr m hm c a w hsim;obtain⟨ds,SE,hl,_,hf,hAE,hK⟩:=zr0 (S0:={ S with next:=S.next+ops.size }) ops.toList 0 _ [] [] rfl rfl (fun j d hj=>by simp at hj) (At.congr (At.start ops [] _) fun j _=>rfl) (Nat.zero_le _) h
 have hF:=yjg he hs hl fun k hk=>hf k (Nat.zero_le _) hk
 refine wpIn_region_any hmix ?_;have key:∀(fuel:Nat) (listed:Array Bool) (c':Ctx) (S':St) (a':Act) (w':World),listed.size=ops.size→((List.range ops.size).filter (fun i=>!listed.getD i true)).length≤fuel →
  yc8 ops (fun i=>listed.getD i false)→At ops ds { S with next:=S.next+ops.size } (fun i=>listed.getD i false) S'→MidD P E m c a w S S.next ops.size (fun i=>listed.getD i false) c' S' a' w' →
  wpAnyIn (FR r) 0 P .any ops (QS P E m c a w S K) fuel listed a' w':=by
  have hgd:∀(listed:Array Bool),listed.size=ops.size→∀i,i<ops.size→listed.getD i true=listed.getD i false:=by
   intro listed hsz i hi;simp[Array.getD_eq_getD_getElem?,Array.getElem?_eq_getElem (show i<listed.size by omega)]
  have fin:∀(listed:Array Bool) (c':Ctx) (S':St) (a':Act) (w':World),listed.size=ops.size→Region.ready .any ops listed=[] →
   At ops ds { S with next:=S.next+ops.size } (fun i=>listed.getD i false) S'→MidD P E m c a w S S.next ops.size (fun i=>listed.getD i false) c' S' a' w'→QS P E m c a w S K .normal a' w':=by
   intro listed c' S' a' w' hsz hrd hA hM;have hall:∀j,j<ops.size→listed.getD j false=true:=by
    intro j
    induction j using Nat.strongRecOn with
    | _ j ih =>
      intro hj;cases hD:listed.getD j false with
      | true=>rfl
      | false =>
        exfalso
        have hmem:j∈Region.ready .any ops listed:=by
         unfold Region.ready;rw[List.mem_filter];refine⟨List.mem_range.2 hj,?_⟩;rw[hgd listed hsz j hj,hD,Array.getElem?_eq_getElem hj];simp only[Bool.not_false,Bool.true_and,Option.map_some,Option.getD_some,Array.all_eq_true'];intro e hee;cases hb:Region.binds .any e with
         | false=>rfl
         | true =>
           have hlt:=zny he (Reach.one (Array.getElem?_eq_getElem hj) hee hb);simp only[Bool.not_true,Bool.false_or];exact ih e.on hlt (by omega)
        rw[hrd] at hmem;cases hmem
   have hA':=hA.congr (D':=fun j=>Nat.blt j ops.size) fun j hj=>by
    rw[hall j hj]
    symm;simpa using hj
   have hsl:∀t,SE.slots.get t=S'.slots.get t:=fun t=>(hAE.slots t).trans (hA'.slots t).symm
   have hhp:∀k,SE.heap.get k=S'.heap.get k:=fun k=>(hAE.heap k).trans (hA'.heap k).symm
   exact⟨c',SE,.normal,⟨hM.ext.toExtM.congr hhp,hM.ext.gd⟩,by rw[hAE.next];simp,hM.sim.congr (hAE.nsl.trans hA'.nsl.symm) (hAE.next.trans hA'.next.symm) hsl hhp,trivial,hK⟩
  intro fuel
  induction fuel with
  | zero =>
    intro listed c' S' a' w' hsz hcnt hC hA hM;have hrd:Region.ready .any ops listed=[]:=by
     have h0:(List.range ops.size).filter (fun i=>!listed.getD i true)=[]:=List.eq_nil_of_length_eq_zero (by omega)
     unfold Region.ready;rw[List.filter_eq_nil_iff] at h0 ⊢;intro i hi hc;simp only[Bool.and_eq_true] at hc;exact h0 i hi hc.1
    exact⟨hrd,fin listed c' S' a' w' hsz hrd hA hM⟩
  | succ fuel ih =>
    intro listed c' S' a' w' hsz hcnt hC hA hM;refine⟨fun hrd=>fin listed c' S' a' w' hsz hrd hA hM,fun i hi=>?_⟩
    unfold Region.ready at hi;rw[List.mem_filter] at hi;obtain⟨hin,hi⟩:=hi;have hin:i<ops.size:=List.mem_range.1 hin;simp only[Bool.and_eq_true,Bool.not_eq_true'] at hi;obtain⟨hi1,hi2⟩:=hi;have hD:listed.getD i false=false:=by rw[← hgd listed hsz i hin];exact hi1
    obtain⟨⟨o,d,Si,ho,hd,hSi,hok⟩,_,_⟩:=hf i (Nat.zero_le _) hin;have hedge:∀e∈o.after,Region.binds .any e=true→listed.getD e.on false=true:=by
     intro e hee hb;rw[ho] at hi2;simp only[Option.map_some,Option.getD_some,Array.all_eq_true'] at hi2;have:=hi2 e hee;rw[hb] at this
     simpa using this
    have hpre:∀j,Reach ops i j→listed.getD j false=true:=by
     intro j hr;cases hr with
     | one ho' hee hb=>rw[ho] at ho';cases ho';exact hedge _ hee hb
     | more ho' hee hb hr'=>rw[ho] at ho';cases ho';exact hC _ _ hr' (hedge _ hee hb)
    obtain⟨ag1,ag2⟩:=hA.agree hF hC hD hpre ho hd hSi;have hok':=zxd hok (hA.nsl.trans hSi.nsl.symm) ag1 ag2;have hget:∀j,(listed.setIfInBounds i true).getD j false=(j == i || listed.getD j false):=by
     intro j;simp only[Array.getD_eq_getD_getElem?,Array.getElem?_setIfInBounds]
     by_cases hj:i=j
     · subst hj;simp[hsz,hin]
     · have : (j == i) = false := by simpa using Ne.symm hj
       simp[hj,this]
    have hgett:∀j,(listed.setIfInBounds i true).getD j true=(j == i || listed.getD j true):=by
     intro j;simp only[Array.getD_eq_getD_getElem?,Array.getElem?_setIfInBounds]
     by_cases hj:i=j
     · subst hj;simp[hsz,hin]
     · have : (j == i) = false := by simpa using Ne.symm hj
       simp[hj,this]
    refine zz1 hE ho hin hD hok' hM fun c2 a2 w2 hM2=>?_
    have hfun:(fun j=>(listed.setIfInBounds i true).getD j false)=(fun j=>j == i || listed.getD j false):=funext hget
    refine ih _ c2 (S'.app o d) a2 w2 (by simpa using hsz) ?_ ?_ ?_ ?_
    · have := ygv (p := fun j => !listed.getD j true) (p' := fun j => !(listed.setIfInBounds i true).getD j true) (i := i) (fun j hj=>by
       rw[hgett] at hj;simp only[Bool.not_eq_true',Bool.or_eq_false_iff] at hj ⊢;exact hj.2) (by simpa using hi1) (by rw[hgett];simp) (List.range ops.size) (List.mem_range.2 hin)
      omega
    · rw [hfun]
      intro a b hr hb;simp only[Bool.or_eq_true,beq_iff_eq] at hb ⊢
      right
      rcases hb with rfl|hb
      · exact hpre b hr
      · exact hC a b hr hb
    · rw[hfun];exact hA.step hF hC hD ho hd hok'.1
    · rw[hfun];exact hM2
 have hinit:(fun i=>(Array.replicate ops.size false).getD i false)=(fun _=>false):=by
  funext i
  simp only[Array.getD_eq_getD_getElem?,Array.getElem?_replicate];split<;>rfl
 refine key ops.size (Array.replicate ops.size false) c { S with next:=S.next+ops.size } a _ (by simp) ?_ ?_ ?_ ?_
 · have := List.length_filter_le (fun i => !(Array.replicate ops.size false).getD i true) (List.range ops.size)
   simpa using this
 · rw[hinit];intro i j _ h;cases h
 · rw[hinit];exact At.start _ _ _
 · rw [hinit]
   exact⟨⟨(ExtM.refl m c w S.heap).drew,Gd.refl w a⟩,rfl,hm,⟨hsim.size,fun t x e=>by obtain⟨v,h1,h2⟩:=hsim.slots t x e;exact⟨v,h1,h2.drew⟩,hsim.defers.mono (Nat.le_refl _) (fun D _ h1 h2=>⟨h1,h2⟩),hsim.wrel.drew,fun k hk=>hsim.fresh k (by have:S.next+ops.size≤k:=hk;omega)⟩,
    fun j hj _=>hsim.fresh _ (by omega)⟩
end
end Go.Ago
end
namespace Go.Ago
def relS:AV→Value→Bool
 | .bool a,.bool b=>a == b
 | .int k a,.int k' b=>decide (k=k') && a == b
 | .str l,.string s=>l == s.data.toList
 | .nilp,.pointer none=>true
 | .nils,.slice none 0 0=>true
 | .nilm,.map none=>true
 | .nilf,.nilFunc=>true
 | .nili,.nilIface=>true
 | _,_=>false
theorem zw1 {x:AV}{v:Value}(h:relS x v=true)(c:Ctx)(w:World):Rel c w x v∧x.one=true:=by
 unfold relS at h;split at h
 · rw[eq_of_beq h];exact⟨.bool _,rfl⟩
 · simp only [Bool.and_eq_true, decide_eq_true_eq, beq_iff_eq] at h
   rw[h.1,h.2];exact⟨.int _ _,rfl⟩
 · rename_i l s
   have:l=s.data.toList:=by simpa using h
   subst this;have:=Rel.str (c:=c) (w:=w) s.data.toList;exact⟨by simpa using this,rfl⟩
 · exact⟨.nilp,rfl⟩
 · exact⟨.nils,rfl⟩
 · exact⟨.nilm,rfl⟩
 · exact⟨.nilf,rfl⟩
 · exact⟨.nili,rfl⟩
 · cases h
def zqn:List AV→List Value→Bool
 | [],[]=>true
 | x::xs,v::vs=>relS x v && zqn xs vs
 | _,_=>false
theorem zem:∀{xs:List AV} {vs:List Value},zqn xs vs=true→∀c w,RelL c w xs vs∧∀x∈xs,x.one=true
 | [],[],_,c,w=>⟨.nil,by simp⟩
 | x :: xs, v :: vs, h, c, w => by
   simp only[zqn,Bool.and_eq_true] at h;obtain⟨h1,h2⟩:=zw1 h.1 c w;obtain⟨h3,h4⟩:=zem h.2 c w;exact⟨.cons h1 h3,fun y hy=>by
    rcases List.mem_cons.1 hy with rfl|hy
    · exact h2
    · exact h4 y hy⟩
 | [],_::_,h,_,_=>by simp[zqn] at h
 | _::_,[],h,_,_=>by simp[zqn] at h
def zfl (P:Program):List Field→List (Nat×Nat×TypeId)→Bool
 | [],[]=>true
 | f::fs,(off,sz,t)::l=>f.offset == off && f.type == t && (match P.info? t with|some i=>i.size == sz|none=>false) && f.name != "_" && zfl P fs l
 | _,_=>false
theorem zgx {P:Program}:∀{fs:List Field} {l:List (Nat×Nat×TypeId)},zfl P fs l=true→fs.length=l.length∧∀(i off sz:Nat) (t:TypeId),l[i]? = some (off,sz,t) →
 ∃f info,fs[i]? = some f∧f.offset=off∧f.type=t∧P.info? t=some info∧info.size=sz∧f.name ≠ "_"
 | [],[],_=>⟨rfl,fun i _ _ _ h=>by simp at h⟩
 | f :: fs, (off, sz, t) :: l, h => by
   simp only[zfl,Bool.and_eq_true,beq_iff_eq] at h;obtain⟨⟨⟨⟨h1,h2⟩,h3⟩,h4⟩,h5⟩:=h;obtain⟨e1,e2⟩:=zgx h5;refine⟨by simp[e1],fun i o s t' he=>?_⟩
   cases i with
   | zero =>
     simp at he;obtain⟨rfl,rfl,rfl⟩:=he;cases hi:P.info? t with
     | none=>rw[hi] at h3;cases h3
     | some info =>
       rw[hi] at h3;exact⟨f,info,rfl,h1,h2,rfl,by simpa using h3,by simpa using h4⟩
   | succ i =>
     obtain⟨g,info,g1,g2⟩:=e2 i o s t' (by simpa using he)
     exact⟨g,info,by simpa using g1,g2⟩
 | [],_::_,h=>by simp[zfl] at h
 | _::_,[],h=>by simp[zfl] at h
def yhm (P:Program):TypeDesc→TD→Bool
 | .struct fs,.struct l=>zfl P fs.toList l
 | .slice e,.slice e'=>e == e'
 | .array n e,.array n' e'=>n == n' && e == e'
 | .int k,.int k'=>decide (k=k')
 | .bool,.bool=>true
 | .string,.string=>true
 | .interface _,.iface=>true
 | .pointer _,.ptr=>true
 | .func _ _ _,.func=>true
 | .map k e,.map k' e'=>k == k' && e == e'
 | .interface _,.other=>false
 | _,.other=>true
 | _,_=>false
theorem zsq {P:Program}{d:TypeDesc}{t:TD}(h:yhm P d t=true):TDOK P d t:=by
 unfold yhm at h;split at h
 · rename_i fs l
   obtain⟨h1,h2⟩:=zgx h;exact⟨fs,rfl,by simpa using h1,fun i off sz t e=>by
    obtain⟨f,info,g1,g2⟩:=h2 i off sz t e;exact⟨f,info,by simpa using g1,g2⟩⟩
 · rw[eq_of_beq h];rfl
 · simp only[Bool.and_eq_true,beq_iff_eq] at h;rw[h.1,h.2];rfl
 · rename_i k k'
   have:k=k':=by simpa using h
   rw[this];rfl
 · rfl
 · rfl
 · exact⟨_,rfl⟩
 · exact⟨_,rfl⟩
 · exact⟨_,_,_,rfl⟩
 · simp only[Bool.and_eq_true,beq_iff_eq] at h;rw[h.1,h.2];rfl
 · cases h
 · rename_i hn
   intro ms e;exact hn ms e
 · cases h
def ydi (P:Program)(t:TypeId)(ti:TI):Bool:=
 match P.info? t,P.underlying t with
 | some info,some d=>info.size == ti.size && info.bytes == ti.bytes && ti.agg == zvs d && yhm P d ti.desc && ti.zero.length == ti.size &&
  (match info.zero with
   | some (.agg cs)=>ti.agg && zqn ti.zero cs.toList
   | some z=>!ti.agg && zqn ti.zero [z]
   | none=>false)
 | _,_=>false
theorem zsp {P:Program}{t:TypeId}{ti:TI}(h:ydi P t ti=true)(he:ti.eqok=true→P.eqGuardType P.depth t=false∧(∀fs,ti.desc = .struct fs→P.stoodInHeld t=false)):TIOK P t ti:=by
 refine⟨?_,he⟩;unfold ydi at h;split at h
 · rename_i info d h1 h2
   simp only[Bool.and_eq_true,beq_iff_eq] at h;obtain⟨⟨⟨⟨⟨a1,a2⟩,a3⟩,a4⟩,a5⟩,a6⟩:=h;have key:∀(z:Value) (zs:List Value),z.cells.toList=zs→zqn ti.zero zs=true→(∀c w,Rel c w (match ti.agg with|true => .agg ti.zero|false=>ti.zero.headD .any) z)→info.zero=some z →
    ∃info d z,P.info? t=some info∧P.underlying t=some d∧info.size=ti.size∧info.bytes=ti.bytes∧ti.agg=zvs d∧TDOK P d ti.desc∧info.zero=some z ∧
     (∀c w,RelL c w ti.zero z.cells.toList)∧ti.zero.length=ti.size∧(∀x∈ti.zero,x.one=true)∧(∀c w,Rel c w (match ti.agg with|true => .agg ti.zero|false=>ti.zero.headD .any) z):=fun z zs hz hr hv hi=>
    ⟨info,d,z,h1,h2,a1,a2,a3,zsq a4,hi,fun c w=>by rw[hz];exact(zem hr c w).1,a5,(zem hr ⟨fun _=>none,fun _=>False⟩ default).2,hv⟩
   split at a6
   · rename_i cs hz
     simp only[Bool.and_eq_true] at a6;refine key _ cs.toList rfl a6.2 (fun c w=>?_) hz
     rw[a6.1];have:=(zem a6.2 c w).1;have h3:=Rel.agg this.1 this.2
     simpa using h3
   · rename_i z hna hz
     simp only[Bool.and_eq_true,Bool.not_eq_true'] at a6;have hzc:z.cells.toList=[z]:=by cases z<;>first|rfl|exact absurd rfl (hna _)
     refine key z [z] hzc a6.2 (fun c w=>?_) hz
     rw[a6.1];have:=(zem a6.2 c w).1;obtain⟨x,hx⟩:∃x,ti.zero=[x]:=by
      have hl:=this.1
      match hzz:ti.zero,hl with
      | [x],_=>exact⟨x,rfl⟩
     rw[hx] at this ⊢;exact this.2 0 x z rfl rfl
   · cases a6
 · cases h
def mkTr:List (Nat×TI)→Tr TI→Tr TI
 | [],t=>t
 | (k,i)::l,t=>mkTr l (t.ins 24 k (some i))
theorem zvi:∀(l:List (Nat×TI)) (t:Tr TI) (k:Nat) (i:TI),(l.all fun p=>Nat.ble (p.1+2) 16777216)=true→(mkTr l t).get k=some i→(k,i)∈l∨t.get k=some i
 | [],t,k,i,_,h => .inr h
 | (j, x) :: l, t, k, i, hb, h => by
   simp only[List.all_cons,Bool.and_eq_true] at hb;have hj:(j+1:Nat)<2 ^ 24:=Nat.lt_of_lt_of_le (Nat.lt_succ_self (j+1)) (Nat.le_trans (Nat.le_of_ble_eq_true hb.1) (by decide))
   rcases zvi l _ k i hb.2 h with h|h
   · exact .inl (by simp[h])
   · rw [Tr.get_ins 24 j _ t k hj] at h
     by_cases e:k=j
     · subst e
       simp at h;subst h;exact .inl (by simp)
     · rw[if_neg e] at h;exact .inr h
theorem yql {P:Program}{tr:Tr TI}{l:List (Nat×TI)}{G:zd9}(ht:tr=mkTr l .nil)(hb:(l.all fun p=>Nat.ble (p.1+2) 16777216)=true)(hc:(l.all fun p=>ydi P p.1 p.2)=true)
 (he:∀p∈l,p.2.eqok=true→P.eqGuardType P.depth p.1=false∧(∀fs,p.2.desc = .struct fs→P.stoodInHeld p.1=false)):EnvOK P ⟨tr.get,G⟩:=by
 refine⟨fun t i h=>?_⟩
 rw[ht] at h;rcases zvi l _ t i hb h with h|h
 · exact zsp (List.all_eq_true.1 hc _ h) (he _ h)
 · cases h
end Go.Ago
section
namespace Go.Ago
def St.at_ (S:St)(nx:Nat):St:={ S with next:=nx }
inductive RR where
 | ok (x:AX) (S:St)
 | no (why:Nat)
inductive R1 where
 | next (S:St)
 | pan (v:AV) (S:St)
 | no (why:Nat)
section
variable (P:Program) (E:Env)
def back (fn:Func)(S:St)(dst:Option Tmp):RR→R1
 | .ok .normal S' | .ok .ret S' => match resA E fn S' with
   | some v => match zbw S dst with
     | true => .next (S.put dst v S'.heap S'.next)
     | false => .no 3
   | none => .no 4
 | .ok (.pan v) S' => .pan v (S.put none .any S'.heap S'.next)
 | .ok _ _ => .no 5
 | .no n => .no n
end
end Go.Ago
end
namespace Go.Ago
theorem zdj {P:Program}{E:Env}{g:FuncId}{args:List AV}{Q:AE→Prop}(hok:zos P g)
 (h:∀c w vs,WRel E.glob c w .nil→RelL c w args vs→Calls P g vs.toArray w fun e w'=>w'=w∧∃ae,ERel c w ae e∧Q ae):PC P E g args Q:=by
 refine⟨hok,fun c w vs hf hw hr=>(h c w vs hw hr).mono ?_⟩
 rintro e w' ⟨rfl,ae,h1,h2⟩
 exact⟨c,ae,Ext.refl _ _ _,hf,hw,h1,h2⟩
theorem PC.mono {P:Program}{E:Env}{g:FuncId}{args:List AV}{Q Q':AE→Prop}(h:PC P E g args Q)(hq:∀ae,Q ae→Q' ae):PC P E g args Q':=
 ⟨h.1,fun c w vs h1 h2 h3=>(h.2 c w vs h1 h2 h3).mono fun _ _ ⟨c',ae,g1,g2,g3,g4,g5⟩=>⟨c',ae,g1,g2,g3,g4,hq ae g5⟩⟩
end Go.Ago
