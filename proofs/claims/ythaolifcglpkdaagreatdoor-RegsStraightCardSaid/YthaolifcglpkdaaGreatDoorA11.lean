/-
  Part 11: lemmas, each with its own conditions.
-/
import Derived.Test.YthaolifcglpkdaaGreatDoorA10
set_option maxRecDepth 100000
set_option maxHeartbeats 0
set_option linter.all false
section
namespace Go.Ago
def AV.f0 (v:AV)(k:AV→Prop):Prop:=
 match v with
 | .any=>k .any
 | .bool b=>k (.bool b)
 | .int i n=>k (.int i n)
 | .str l=>k (.str l)
 | .nilp=>k .nilp
 | .ptr a i o=>k (.ptr a i o)
 | .rptr cs=>k (.rptr cs)
 | .nils=>k .nils
 | .empt=>k .empt
 | .slc a i n s=>k (.slc a i n s)
 | .rsl s es=>k (.rsl s es)
 | .nilm=>k .nilm
 | .mapp a=>k (.mapp a)
 | .mpo a=>k (.mpo a)
 | .rmp es=>k (.rmp es)
 | .fn f xs ys=>k (.fn f xs ys)
 | .nilf=>k .nilf
 | .ifc t v=>k (.ifc t v)
 | .nili=>k .nili
 | .agg cs=>k (.agg cs)
 | .tup vs=>k (.tup vs)
def fL (f:AV→(AV→Prop)→Prop):List AV→(List AV→Prop)→Prop
 | [],k=>k []
 | x::l,k=>f x fun x'=>fL f l fun l'=>k (x'::l')
def AV.fa (v:AV)(k:AV→Prop):Prop:=
 match v with
 | .agg cs=>fL AV.f0 cs fun cs'=>k (.agg cs')
 | .rptr cs=>fL AV.f0 cs fun cs'=>k (.rptr cs')
 | v=>v.f0 k
def AV.f1 (v:AV)(k:AV→Prop):Prop:=
 match v with
 | .ifc t v=>v.fa fun v'=>k (.ifc t v')
 | .fn f xs ys=>fL AV.fa xs fun xs'=>fL AV.fa ys fun ys'=>k (.fn f xs' ys')
 | v=>v.fa k
def AV.f2 (v:AV)(k:AV→Prop):Prop:=
 match v with
 | .bool b=>cond b (k (.bool true)) (k (.bool false))
 | .tup vs=>fL AV.f1 vs fun vs'=>k (.tup vs')
 | v=>v.f1 k
def AV.f2L (lz:Bool)(v:AV)(k:AV→Prop):Prop:=
 match lz with
 | true => match v with
   | .tup vs=>fL AV.f1 vs fun vs'=>k (.tup vs')
   | v=>v.f1 k
 | false=>v.f2 k
theorem AV.f0_s {v:AV}{k:AV→Prop}(h:v.f0 k):k v:=by cases v<;>exact h
theorem fL_s {f:AV→(AV→Prop)→Prop}(hf:∀x k,f x k→k x):∀{l:List AV} {k:List AV→Prop},fL f l k→k l
 | [],_,h=>h
 | _::l,_,h=>fL_s hf (l:=l) (hf _ _ h)
theorem AV.fa_s {v:AV}{k:AV→Prop}(h:v.fa k):k v:=by
 cases v<;>first|exact fL_s (fun _ _ h=>AV.f0_s h) h|exact AV.f0_s (k:=k) h
theorem AV.f1_s {v:AV}{k:AV→Prop}(h:v.f1 k):k v:=by
 cases v<;>first|exact AV.fa_s (k:=fun v=>k (.ifc _ v)) h|exact fL_s (fun _ _ h=>AV.fa_s h) (fL_s (fun _ _ h=>AV.fa_s h) h)|exact AV.fa_s (k:=k) h
theorem AV.f2_s {v:AV}{k:AV→Prop}(h:v.f2 k):k v:=by
 cases v<;>first|exact fL_s (fun _ _ h=>AV.f1_s h) h|exact AV.f1_s (k:=k) h|skip
 rename_i b;cases b<;>exact h
theorem AV.f2L_s {lz:Bool}{v:AV}{k:AV→Prop}(h:v.f2L lz k):k v:=by
 cases lz with
 | false=>exact AV.f2_s h
 | true=>cases v<;>first|exact fL_s (fun _ _ h=>AV.f1_s h) h|exact AV.f1_s (k:=k) h
def fN (n:Nat)(k:Nat→Prop):Prop:=
 match n with
 | 0=>k 0
 | m+1=>k (m+1)
theorem fN_s {n:Nat}{k:Nat→Prop}(h:fN n k):k n:=by cases n<;>exact h
theorem zag {A B:Prop}{b:Bool}(h1:b=true→A)(h2:b=false→B):cond b A B:=by
 cases b
 · exact h2 rfl
 · exact h1 rfl
theorem ybj {A B:Prop}{b:Bool}(h1:b=true)(h2:A):cond b A B:=by subst h1;exact h2
theorem ybk {A B:Prop}{b:Bool}(h1:b=false)(h2:B):cond b A B:=by subst h1;exact h2
def optK (o:Option (List AV))(f:List AV→Prop):Prop:=
 match o with
 | some e=>f e
 | none=>False
theorem zap {o:Option (List AV)}{f:List AV→Prop}{e:List AV}(h:o=some e)(h':f e):optK o f:=by subst h;exact h'
def gt3 (k:Nat)(K:AObj→Prop):zah→Prop
 | .nil=>False
 | .node l x r => match (Tr.node l x r).get k with
   | some o=>K o
   | none=>False
 | .put j v t => cond (Nat.beq k j) (match v with
   | some o=>K o
   | none=>False) (gt3 k K t)
 | .fam A N g t => cond (Nat.ble A k && Nat.blt k (A + N)) (match g (k - A) with
   | some o=>K o
   | none=>False) (gt3 k K t)
theorem zmh {k:Nat}{K:AObj→Prop}:∀{H:zah},gt3 k K H→∃o,H.get k=some o∧K o
 | .nil,h=>h.elim
 | .node l x r, h => by
   simp only[gt3] at h;cases e:(Tr.node l x r).get k with
   | none=>rw[e] at h;exact h.elim
   | some o=>rw[e] at h;exact⟨o,rfl,h⟩
 | .put j v t, h => by
   simp only[gt3] at h;rw[Tr.get];cases e:Nat.beq k j with
   | true =>
     rw[e] at h;cases v with
     | none=>exact h.elim
     | some o=>exact⟨o,rfl,h⟩
   | false=>rw[e] at h;exact zmh (H:=t) h
 | .fam A N g t, h => by
   simp only[gt3] at h;rw[Tr.get];cases e:Nat.ble A k && Nat.blt k (A+N) with
   | true =>
     rw[e] at h;simp only[cond_true] at h ⊢;cases e2:g (k - A) with
     | none=>rw[e2] at h;exact h.elim
     | some o=>rw[e2] at h;exact⟨o,rfl,h⟩
   | false=>rw[e] at h;exact zmh (H:=t) h
theorem zn9 {k:Nat}{K:AObj→Prop}{o:AObj}:∀{H:zah},H.get k=some o→K o→gt3 k K H
 | .nil,e,_=>by cases e
 | .node l x r, e, h => by
   simp only[gt3];rw[e];exact h
 | .put j v t, e, h => by
   simp only[gt3];rw[Tr.get] at e;cases b:Nat.beq k j with
   | true=>rw[b] at e;simp only[cond_true] at e ⊢;subst e;exact h
   | false=>rw[b] at e;exact zn9 (H:=t) e h
 | .fam A N g t, e, h => by
   simp only[gt3];rw[Tr.get] at e;cases b:Nat.ble A k && Nat.blt k (A+N) with
   | true=>rw[b] at e;simp only[cond_true] at e ⊢;rw[e];exact h
   | false=>rw[b] at e;exact zn9 (H:=t) e h
theorem zq9 {k:Nat}{K:AObj→Prop}{o:AObj}{H:zah}(e:H.get k=some o):gt3 k K H=K o:=
 propext ⟨fun h=>by obtain⟨o',e',h⟩:=zmh h;rw[e] at e';cases e';exact h,zn9 e⟩
def Rd.h3 (H:zah)(K:AV→List (Nat×Option AObj)→Prop)(Kp:AV→Prop):Rd→Prop
 | .ret e => match e with
   | ⟨v,up⟩=>K v up
 | .pan v=>Kp v
 | .rd k f=>gt3 k (fun o=>(f o).h3 H K Kp) H
 | .req b r=>cond b (r.h3 H K Kp) False
 | .br b r s=>cond b (r.h3 H K Kp) (s.h3 H K Kp)
 | .opt o f=>optK o fun e=>fL AV.f0 e fun e'=>(f e').h3 H K Kp
 | .fail=>False
theorem Rd.h3_s {H:zah}{K:AV→List (Nat×Option AObj)→Prop}{Kp:AV→Prop}:∀{r:Rd},r.h3 H K Kp→r.holds H (fun e=>K e.val e.up) Kp
 | .ret e,h=>h
 | .pan v,h=>h
 | .rd k f, h => by
   simp only[h3] at h;simp only[holds];obtain⟨o,e,h⟩:=zmh h;rw[e];exact h3_s h
 | .req b r, h => by
   cases b with
   | true=>exact⟨rfl,h3_s (r:=r) h⟩
   | false=>exact h.elim
 | .br b r s, h => by
   cases b with
   | true=>exact⟨fun _=>h3_s (r:=r) h,fun h=>by cases h⟩
   | false=>exact⟨(fun h=>by cases h),fun _=>h3_s (r:=s) h⟩
 | .opt o f, h => by
   cases o with
   | none=>exact h.elim
   | some e=>exact⟨e,rfl,h3_s (r:=f e) (fL_s (k:=fun e'=>(f e').h3 H K Kp) (fun _ _ h=>AV.f0_s h) h)⟩
 | .fail,h=>h.elim
def Rd.hR3 (H:zah)(K:AV→List (Nat×Option AObj)→List Nat→Prop):Rd→List Nat→Prop
 | .ret e, l => match e with
   | ⟨v,up⟩=>K v up l
 | .pan _,_=>False
 | .rd k f,l=>gt3 k (fun o=>(f o).hR3 H K (k::l)) H
 | .req b r,l=>cond b (r.hR3 H K l) False
 | .br b r s,l=>cond b (r.hR3 H K l) (s.hR3 H K l)
 | .opt o f,l=>optK o fun e=>fL AV.f0 e fun e'=>(f e').hR3 H K l
 | .fail,_=>False
theorem Rd.hR3_s {H:zah}{K:AV→List (Nat×Option AObj)→List Nat→Prop}:∀{r:Rd} {l:List Nat},r.hR3 H K l→r.holdsR H (fun e l=>K e.val e.up l) l
 | .ret e,_,h=>h
 | .pan v,_,h=>h.elim
 | .rd k f, l, h => by
   simp only[hR3] at h;simp only[holdsR];obtain⟨o,e,h⟩:=zmh h;rw[e];exact hR3_s h
 | .req b r, l, h => by
   cases b with
   | true=>exact⟨rfl,hR3_s (r:=r) h⟩
   | false=>exact h.elim
 | .br b r s, l, h => by
   cases b with
   | true=>exact⟨fun _=>hR3_s (r:=r) h,fun h=>by cases h⟩
   | false=>exact⟨(fun h=>by cases h),fun _=>hR3_s (r:=s) h⟩
 | .opt o f, l, h => by
   cases o with
   | none=>exact h.elim
   | some e=>exact⟨e,rfl,hR3_s (r:=f e) (fL_s (k:=fun e'=>(f e').hR3 H K l) (fun _ _ h=>AV.f0_s h) h)⟩
 | .fail,_,h=>h.elim
theorem Rd.holdsR_one {H:zah}{K:Eff→List Nat→Prop}:∀{r:Rd} {l:List Nat},r.holdsR H K l→∃e l',K e l'∧r.holdsR H (fun e1 l1=>e1=e∧l1=l') l
 | .ret e,l,h=>⟨e,l,h,rfl,rfl⟩
 | .pan v,_,h=>h.elim
 | .rd k f, l, h => by
   simp only[holdsR] at h ⊢;cases e:H.get k with
   | none=>rw[e] at h;exact h.elim
   | some o=>rw[e] at h;exact holdsR_one h
 | .req b r, l, h => by
   obtain⟨rfl,h⟩:=h;obtain⟨e,l',h1,h2⟩:=holdsR_one (r:=r) h;exact⟨e,l',h1,rfl,h2⟩
 | .br b r s, l, h => by
   cases b with
   | true =>
     obtain⟨e,l',h1,h2⟩:=holdsR_one (r:=r) (h.1 rfl);exact⟨e,l',h1,fun _=>h2,fun h=>by cases h⟩
   | false =>
     obtain⟨e,l',h1,h2⟩:=holdsR_one (r:=s) (h.2 rfl);exact⟨e,l',h1,(fun h=>by cases h),fun _=>h2⟩
 | .opt o f, l, h => by
   obtain⟨x,rfl,h⟩:=h;obtain⟨e,l',h1,h2⟩:=holdsR_one (r:=f x) h;exact⟨e,l',h1,x,rfl,h2⟩
 | .fail,_,h=>h.elim
theorem Rd.holdsR_mono {H:zah}{K K':Eff→List Nat→Prop}(hk:∀e l,K e l→K' e l):∀{r:Rd} {l:List Nat},r.holdsR H K l→r.holdsR H K' l
 | .ret e,l,h=>hk _ _ h
 | .pan v,_,h=>h.elim
 | .rd k f, l, h => by
   simp only[holdsR] at h ⊢;cases e:H.get k with
   | none=>rw[e] at h;exact h.elim
   | some o=>rw[e] at h;exact holdsR_mono hk h
 | .req b r,l,h=>⟨h.1,holdsR_mono hk h.2⟩
 | .br b r s,l,h=>⟨fun e=>holdsR_mono hk (h.1 e),fun e=>holdsR_mono hk (h.2 e)⟩
 | .opt o f, l, h => by
   obtain⟨x,hx,h⟩:=h;exact⟨x,hx,holdsR_mono hk h⟩
 | .fail,_,h=>h.elim
theorem zjh {P:Program}{E:Env}{ops:List Oper}{base:Nat}{masks:List Nat}{K K':St→Prop}(hk:∀s,K s→K' s):∀(rest:List Oper) {i:Nat} {S:St} {acc:List (Nat×List Nat×List Nat)},awD P E ops base masks K rest i S acc→awD P E ops base masks K' rest i S acc
 | [],i,S,acc,h=>hk _ h
 | o :: rest, i, S, acc, h => by
   simp only[awD,gate] at h ⊢;have hp:∀{d:DE→Prop} {d':DE→Prop},(∀x,d x→d' x)→dop P E (base+i) o S d→dop P E (base+i) o S d':=by
    intro d d' hd h;refine⟨h.1,?_⟩;have h:=h.2;split at h
    · rcases h with ⟨v, rds, h1, h2⟩ | ⟨v, up, h1, h2⟩
      · exact .inl ⟨v,rds,h1,hd _ h2⟩
      · exact .inr ⟨v,up,h1,hd _ h2⟩
    · exact Rd.holdsR_mono (fun _ _ h=>hd _ h) h
   cases hg:o.guard with
   | none=>rw[hg] at h;exact hp (fun x hx=>⟨hx.1,zjh hk rest hx.2⟩) h
   | some p =>
     obtain⟨j,want⟩:=p;rw[hg] at h;dsimp only at h ⊢;cases hv:zcx ops S j want with
     | none=>rw[hv] at h;exact h.elim
     | some b =>
       rw[hv] at h;dsimp only at h ⊢;exact⟨fun hb=>hp (fun x hx=>⟨hx.1,zjh hk rest hx.2⟩) (h.1 hb),fun hb=>⟨(h.2 hb).1,zjh hk rest (h.2 hb).2⟩⟩
def upd3 (H:zah)(k:zah→Prop):List (Nat×Option AObj)→Prop
 | []=>k H
 | (n,o)::l=>upd3 (.put n o H) k l
theorem zp4 {k:zah→Prop}:∀{l:List (Nat×Option AObj)} {H:zah},upd3 H k l→k (Eff.upd H l)
 | [],_,h=>h
 | (_,_)::l,_,h=>zp4 (l:=l) h
def put3 (sl:Tr AV)(n:Nat)(dst:Option Tmp)(v:AV)(H:zah)(k:St→Prop):Prop:=
 v.f2 fun v'=>match dst with
  | none=>k ⟨sl,n,H,0⟩
  | some d=>k ⟨.put d (some v') sl,n,H,0⟩
theorem zka {sl:Tr AV}{n x:Nat}{h0:zah}{dst:Option Tmp}{v:AV}{H:zah}{k:St→Prop}(h:put3 sl n dst v H k):k ((⟨sl,n,h0,x⟩:St).put dst v H 0):=by
 have:=AV.f2_s h;cases dst<;>exact this
inductive Br (b:Bool)(A B:Prop):Prop where
 | t (h:b=true) (x:A)
 | f (h:b=false) (x:B)
inductive Rq (b:Bool)(A:Prop):Prop where
 | mk (h:b=true) (x:A)
inductive Ok3 (o:Option (List AV))(f:List AV→Prop):Prop where
 | mk (e:List AV) (h:o=some e) (x:f e)
theorem Br.split {A B:Prop}{b:Bool}(h1:b=true→A)(h2:b=false→B):Br b A B:=by
 cases b
 · exact .f rfl (h2 rfl)
 · exact .t rfl (h1 rfl)
theorem Rq.c {A:Prop}{b:Bool}(h:Rq b A):cond b A False:=by
 obtain⟨h,x⟩:=h;subst h;exact x
theorem Ok3.c {o:Option (List AV)}{f:List AV→Prop}(h:Ok3 o f):optK o f:=by
 obtain⟨e,h,x⟩:=h;subst h;exact x
abbrev KR:=AV→List (Nat×Option AObj)→List Nat→Prop
def ztx (lz:Bool)(b:Bool)(K:KR)(l:List Nat):Prop:=
 match lz with
 | true=>K (.bool b) [] l
 | false=>Br b (K (.bool true) [] l) (K (.bool false) [] l)
theorem ycn {H:zah}{lz b:Bool}{K:KR}{l:List Nat}(h:ztx lz b K l):(Rd.ret ⟨.bool b,[]⟩).hR3 H K l:=by
 cases lz with
 | true=>exact h
 | false =>
   cases h with
   | t h x=>subst h;exact x
   | f h x=>subst h;exact x
def ycm (lz:Bool)(b:Bool)(K:KR)(l:List Nat):Prop:=
 match lz with
 | true=>K (.bool (!b)) [] l
 | false=>Br b (K (.bool false) [] l) (K (.bool true) [] l)
theorem zwd {H:zah}{lz b:Bool}{K:KR}{l:List Nat}(h:ycm lz b K l):(Rd.ret ⟨.bool (!b),[]⟩).hR3 H K l:=by
 cases lz with
 | true=>exact h
 | false =>
   cases h with
   | t h x=>subst h;exact x
   | f h x=>subst h;exact x
def bin3 (lz:Bool)(E:Env)(H:zah)(K:KR)(l:List Nat)(op:BinOp)(t:TypeId)(lit:Bool)(x y:AV):Prop:=
 match x,y with
 | .int k a, .int k' b =>
   match op with
   | .shl=>Rq (decide (0≤b)) (K (.int k (wr k (a * 2 ^ min b.toNat k.bits))) [] l)
   | .shr=>Rq (decide (0≤b)) (K (.int k (a.fdiv (2 ^ min b.toNat k.bits))) [] l)
   | .eql=>match decide (k=k') with|true=>ztx lz (eqI a b) K l|false=>False
   | .neq=>match decide (k=k') with|true=>ycm lz (eqI a b) K l|false=>False
   | .lss=>match decide (k=k') with|true=>ztx lz (ltI a b) K l|false=>False
   | .leq=>match decide (k=k') with|true=>ztx lz (leI a b) K l|false=>False
   | .gtr=>match decide (k=k') with|true=>ztx lz (ltI b a) K l|false=>False
   | .geq=>match decide (k=k') with|true=>ztx lz (leI b a) K l|false=>False
   | .quo=>match decide (k=k') with|true=>Rq (!decide (b=0)) (K (.int k (wr k (a.tdiv b))) [] l)|false=>False
   | .rem=>match decide (k=k') with|true=>Rq (!decide (b=0)) (K (.int k (a.tmod b)) [] l)|false=>False
   | op=>(zhz E op t lit (.int k a) (.int k' b)).hR3 H K l
 | .str a, .str b =>
   match op with
   | .add=>Rq (Nat.ble (a.length+b.length) 9223372036854775807) (K (.str (a++b)) [] l)
   | .eql=>ztx lz (eqS a b) K l
   | .neq=>ycm lz (eqS a b) K l
   | op=>(zhz E op t lit (.str a) (.str b)).hR3 H K l
 | x,y=>(zhz E op t lit x y).hR3 H K l
theorem yo5 {lz:Bool}{E:Env}{H:zah}{K:KR}{l:List Nat}{op:BinOp}{t:TypeId}{lit:Bool}{x y:AV}(h:bin3 lz E H K l op t lit x y):(zhz E op t lit x y).hR3 H K l:=by
 unfold bin3 at h;split at h
 · rename_i k a k' b
   cases op<;>dsimp only at h<;>first|exact h|skip
   all_goals (simp only[zhz])
   all_goals first
    | exact Rq.c h
    | (cases hk:decide (k=k')<;>rw[hk] at h<;>dsimp only at h<;>first|exact h.elim|exact ycn h|exact zwd h|exact Rq.c h)
 · rename_i a b
   cases op<;>dsimp only at h<;>first|exact h|skip
   all_goals (simp only[zhz])
   all_goals first
    | exact Rq.c h
    | exact ycn h
    | exact zwd h
 · exact h
def ixA3 (E:Env)(K:KR)(l:List Nat)(t:TypeId)(x ix:AV):Prop:=
 match E.ti t with
 | some ti => match ti.desc, ix with
   | .slice e, .int _ n => match E.ti e with
     | some te => match x with
       | .slc k i len sz=>cond (sz == te.size) (Rq (inB n len) (K (.ptr k (i+n.toNat) 0) [] l)) False
       | .rsl sz es=>cond (sz == te.size) (Rq (inB n es.length) (Ok3 es[n.toNat]? fun cs=>fL AV.f0 cs fun cs'=>K (.rptr cs') [] l)) False
       | _=>False
     | none=>False
   | .array len e, .int _ n => match E.ti e with
     | some te => match x with
       | .ptr k i off=>Rq (inB n len) (K (.ptr k i (off+n.toNat * te.size)) [] l)
       | .rptr cs=>Rq (inB n len) (Ok3 (zje cs (n.toNat * te.size) te.size) fun cs=>fL AV.f0 cs fun cs'=>K (.rptr cs') [] l)
       | _=>False
     | none=>False
   | _,_=>False
 | none=>False
theorem yoa {E:Env}{H:zah}{K:KR}{l:List Nat}{t:TypeId}{x ix:AV}(h:ixA3 E K l t x ix):(zey E t x ix).hR3 H K l:=by
 unfold ixA3 at h;unfold zey zba;split at h<;>first|exact h.elim|skip
 rename_i ti hti;rw[hti];dsimp only;split at h<;>first|exact h.elim|skip
 · rename_i e _ n hd
   rw[hd];dsimp only;split at h<;>first|exact h.elim|skip
   rename_i te hte;rw[hte];dsimp only;split at h<;>first|exact h.elim|skip
   · rename_i k i len sz
     cases hs:sz == te.size with
     | false=>rw[hs] at h;exact h.elim
     | true =>
       rw[hs] at h;simp only[cond_true] at h;show cond (_ && _) _ _;rw[hs,Bool.true_and];exact h.c
   · rename_i sz es
     cases hs:sz == te.size with
     | false=>rw[hs] at h;exact h.elim
     | true =>
       rw[hs] at h;simp only[cond_true] at h;obtain⟨h1,h2⟩:=h;show cond (_ && _) _ _;rw[hs,Bool.true_and,h1];exact h2.c
 · rename_i len e _ n hd
   rw[hd];dsimp only;split at h<;>first|exact h.elim|skip
   rename_i te hte;rw[hte];dsimp only;split at h<;>first|exact h.elim|skip
   · exact h.c
   · obtain ⟨h1, h2⟩ := h
     show cond _ _ _;rw[h1];exact h2.c
def ix3 (E:Env)(H:zah)(K:KR)(l:List Nat)(t:TypeId)(x ix:AV):Prop:=
 match E.ti t with
 | some ti => match ti.desc, ix, x with
   | .string,.int _ n,.str s=>Rq (inB n s.length) (K (.int .u8 (s.getD n.toNat 0).toNat) [] l)
   | .array len e, .int _ n, .agg cs => match E.ti e with
     | some te=>Rq (inB n len) (Ok3 (zje cs (n.toNat * te.size) te.size) fun e=>fL AV.f0 e fun e'=>(ldv te e' 0).hR3 H K l)
     | none=>False
   | _,_,_=>False
 | none=>False
theorem yp6 {E:Env}{H:zah}{K:KR}{l:List Nat}{t:TypeId}{x ix:AV}(h:ix3 E H K l t x ix):(zk2 E t x ix).hR3 H K l:=by
 unfold ix3 at h;unfold zk2 zba;split at h<;>first|exact h.elim|skip
 rename_i ti hti;rw[hti];dsimp only;split at h<;>first|exact h.elim|skip
 · rename_i _ n s hd
   rw[hd];dsimp only;exact h.c
 · rename_i len e _ n cs hd
   rw[hd];dsimp only;split at h<;>first|exact h.elim|skip
   rename_i te hte;rw[hte];dsimp only;obtain⟨h1,h2⟩:=h;show cond _ _ _;rw[h1];exact h2.c
def sl3 (E:Env)(H:zah)(K:KR)(l:List Nat)(t:TypeId)(x:AV)(lo hi mx:Option AV):Prop:=
 match E.ti t with
 | some ti => match ti.desc, x with
   | .string, .str s => match mx, zbr 0 lo, zbr s.length hi with
     | none,some a,some b=>Rq (zdg a b s.length) (K (.str ((s.drop a.toNat).take (b.toNat - a.toNat))) [] l)
     | _,_,_=>False
   | .slice e, .slc k i len sz => match E.ti e with
     | some te => cond (sz == te.size) (match zbr 0 lo, zbr len hi with
       | some a, some b => match mx with
         | none=>Rq (zdg a b len) (K (.slc k (i+a.toNat) (b.toNat - a.toNat) sz) [] l)
         | _=>(zei E t x lo hi mx).hR3 H K l
       | _,_=>False) False
     | none=>False
   | .slice e, .rsl sz es => match E.ti e with
     | some te => cond (sz == te.size) (match zbr 0 lo, zbr es.length hi with
       | some a, some b => match mx with
         | none=>Rq (zdg a b es.length) (K (.rsl sz ((es.drop a.toNat).take (b.toNat - a.toNat))) [] l)
         | _=>(zei E t x lo hi mx).hR3 H K l
       | _,_=>False) False
     | none=>False
   | _,_=>(zei E t x lo hi mx).hR3 H K l
 | none=>False
theorem ypu {E:Env}{H:zah}{K:KR}{l:List Nat}{t:TypeId}{x:AV}{lo hi mx:Option AV}(h:sl3 E H K l t x lo hi mx):(zei E t x lo hi mx).hR3 H K l:=by
 unfold sl3 at h;split at h<;>first|exact h.elim|skip
 rename_i ti hti;split at h
 · rename_i s hd
   split at h<;>first|exact h.elim|skip
   rename_i a b h1 h2;unfold zei zba;rw[hti];dsimp only;rw[hd];dsimp only;rw[h1,h2];exact h.c
 · rename_i e k i len sz hd
   split at h<;>first|exact h.elim|skip
   rename_i te hte;cases hs:sz == te.size with
   | false=>rw[hs] at h;exact h.elim
   | true =>
     rw[hs] at h;simp only[cond_true] at h;split at h<;>first|exact h.elim|skip
     rename_i a b h1 h2;split at h<;>first|exact h|skip
     unfold zei zba;rw[hti];dsimp only;rw[hd];dsimp only;rw[hte];dsimp only;show cond (sz == te.size) _ _;rw[hs,h1,h2];exact h.c
 · rename_i e sz es hd
   split at h<;>first|exact h.elim|skip
   rename_i te hte;cases hs:sz == te.size with
   | false=>rw[hs] at h;exact h.elim
   | true =>
     rw[hs] at h;simp only[cond_true] at h;split at h<;>first|exact h.elim|skip
     rename_i a b h1 h2;split at h<;>first|exact h|skip
     unfold zei zba;rw[hti];dsimp only;rw[hd];dsimp only;rw[hte];dsimp only;show cond (sz == te.size) _ _;rw[hs,h1,h2];exact h.c
 · exact h
def mk3 (E:Env)(K:KR)(ls:List Nat)(nm:Nat)(t:TypeId)(len cap:AV):Prop:=
 match E.ti t with
 | some ti => match ti.desc, len, cap with
   | .slice e, .int .i64 l, .int .i64 c => match E.ti e with
     | some te => Rq (decide (0 ≤ l) && decide (l ≤ c) && decide (c ≤ 9223372036854775807) && decide (te.bytes * c ≤ 140737488355328) && Nat.blt 0 te.size)
       (cond (Nat.ble (nm+2) 16777216) (K (.slc nm 0 l.toNat te.size) [(nm,some (.arr te.size (List.replicate c.toNat te.zero)))] ls) False)
     | none=>False
   | _,_,_=>False
 | none=>False
theorem yp5 {E:Env}{H:zah}{K:KR}{ls:List Nat}{nm:Nat}{t:TypeId}{len cap:AV}(h:mk3 E K ls nm t len cap):(zex E nm t len cap).hR3 H K ls:=by
 unfold mk3 at h;unfold zex zba;split at h<;>first|exact h.elim|skip
 rename_i ti hti;rw[hti];dsimp only;split at h<;>first|exact h.elim|skip
 rename_i e l c hd;rw[hd];dsimp only;split at h<;>first|exact h.elim|skip
 rename_i te hte;rw[hte];dsimp only;exact h.c
def yfp (H:zah)(K:KR)(ls:List Nat)(nm:Nat)(te:TI)(s:AV)(new:List (List AV)):Prop:=
 Br (Nat.beq new.length 0) (match lenA s with|some _=>K s [] ls|none=>False)
  (Rq (new.all fun e => e.all AV.one) (match s with
    | .nils | .empt=>Rq (Nat.ble (new.length * (te.bytes+1)) 140737488355328) (cond (Nat.ble (nm+2) 16777216) (K (.slc nm 0 new.length te.size) [(nm,some (.arr te.size new))] ls) False)
    | .slc k i len sz => match H.get k with
      | some (.arr sz' es) => cond (sz == te.size && sz' == te.size && Nat.ble (k + 2) 16777216 && Nat.ble (nm + 2) 16777216)
        (Rq (Nat.ble (i+len) es.length && Nat.ble ((len+new.length) * (te.bytes+1)) 140737488355328) (K (.slc nm 0 (len+new.length) te.size) [(k,none),(nm,some (.arr te.size ((es.drop i).take len++new)))] (k::ls))) False
      | _=>False
    | _=>False))
def appR (nm:Nat)(te:TI)(s:AV)(new:List (List AV)):Rd:=
 .br (Nat.beq new.length 0) (match lenA s with|some _ => .ret ⟨s,[]⟩|none => .fail)
  (.req (new.all fun e => e.all AV.one) (match s with
    | .nils | .empt => .req (Nat.ble (new.length * (te.bytes+1)) 140737488355328) (put1 (.slc nm 0 new.length te.size) nm (.arr te.size new))
    | .slc k i len sz => .rd k <| zjv fun sz' es => .req (sz == te.size && sz' == te.size && Nat.ble (i+len) es.length && Nat.ble ((len+new.length) * (te.bytes+1)) 140737488355328 && Nat.ble (k+2) 16777216 && Nat.ble (nm+2) 16777216) (.ret ⟨.slc nm 0 (len+new.length) te.size,[(k,none),(nm,some (.arr te.size ((es.drop i).take len++new)))]⟩)
    | _ => .fail))
theorem yky {E:Env}{nm:Nat}{e:TypeId}{te:TI}{s x:AV}(h:E.ti e=some te):zhd E nm e s x = .req (Nat.blt 0 te.size) (zod te.size x (appR nm te s)):=by
 unfold zhd zba;rw[h];rfl
theorem ycy {H:zah}{K:KR}{ls:List Nat}{nm:Nat}{te:TI}{s:AV}{new:List (List AV)}(h:yfp H K ls nm te s new):(appR nm te s new).hR3 H K ls:=by
 unfold appR;unfold yfp at h;cases h with
 | t h x =>
   simp only[Rd.hR3,h,cond_true];cases hl:lenA s with
   | none=>rw[hl] at x;exact x.elim
   | some n=>rw[hl] at x;exact x
 | f h x =>
   obtain⟨h1,x⟩:=x;simp only[Rd.hR3,h,cond_false,h1,cond_true];cases s<;>dsimp only at x ⊢<;>first|exact x.elim|exact x.c|skip
   rename_i k i len sz;simp only[Rd.hR3];cases hk:H.get k with
   | none=>rw[hk] at x;exact x.elim
   | some o =>
     rw[hk] at x;cases o with
     | sit _ _=>exact x.elim
     | lp _ _ _ _ _=>exact x.elim
     | mp _=>exact x.elim
     | mit _ _=>exact x.elim
     | arr sz' es=>
     dsimp only at x;rw[zq9 hk];simp only[zjv];cases hc:sz == te.size && sz' == te.size && Nat.ble (k+2) 16777216 && Nat.ble (nm+2) 16777216 with
     | false=>rw[hc] at x;exact x.elim
     | true =>
       rw[hc] at x;simp only[cond_true] at x;obtain⟨h2,x⟩:=x;simp only[Bool.and_eq_true] at hc h2;show cond _ _ _;rw[show(sz == te.size && sz' == te.size && Nat.ble (i+len) es.length && Nat.ble ((len+new.length) * (te.bytes+1)) 140737488355328 && Nat.ble (k+2) 16777216 && Nat.ble (nm+2) 16777216)=true by
        simp only[Bool.and_eq_true];exact⟨⟨⟨⟨hc.1.1,h2.1⟩,h2.2⟩,hc.1.2⟩,hc.2⟩]
       exact x
def apz3 (E:Env)(K:KR)(l:List Nat)(nm:Nat)(e:TypeId)(n:Int):Prop:=
 match E.ti e with
 | some te => cond (Nat.blt 0 te.size && te.zero.all AV.one) (Rq (Nat.blt 0 n.toNat && Nat.ble (n.toNat * (te.bytes+1)) 140737488355328)
  (cond (Nat.ble (nm+2) 16777216) (K (.slc nm 0 n.toNat te.size) [(nm,some (.arr te.size (List.replicate n.toNat te.zero)))] l) False)) False
 | none=>False
theorem ypc {E:Env}{H:zah}{K:KR}{l:List Nat}{nm:Nat}{e:TypeId}{n:Int}(h:apz3 E K l nm e n):(zo4 E nm e .nils (.int .i64 n)).hR3 H K l:=by
 unfold apz3 at h;unfold zo4 zba;split at h<;>first|exact h.elim|skip
 rename_i te hte;rw[hte];dsimp only;simp only[Rd.hR3];cases hs:Nat.blt 0 te.size && te.zero.all AV.one with
 | false=>rw[hs] at h;exact h.elim
 | true =>
   rw[hs] at h;simp only[cond_true] at h ⊢;obtain⟨h1,h2⟩:=h;rw[h1];simp only[cond_true];exact h2
def apd3 (E:Env)(H:zah)(K:KR)(ls:List Nat)(nm:Nat)(t tx:TypeId)(s x:AV):Prop:=
 match E.ti t,E.ti tx with
 | some ti, some tix => match ti.desc, tix.desc, x with
   | .slice e, .int _, .int .i64 n => match s with
     | .nils=>apz3 E K ls nm e n
     | _=>False
   | .slice e, .slice _, .nils => match E.ti e with
     | some te=>cond (Nat.blt 0 te.size) (match lenA s with|some _=>K s [] ls|none=>False) False
     | none=>False
   | .slice e, .slice _, .rsl sz es => match E.ti e with
     | some te=>cond (Nat.blt 0 te.size && sz == te.size) (yfp H K ls nm te s es) False
     | none=>False
   | .slice e, .slice _, .slc k i len sz => match E.ti e with
     | some te => match H.get k with
       | some (.arr sz' es)=>cond (Nat.blt 0 te.size && sz == te.size && sz' == te.size) (Rq (Nat.ble (i+len) es.length) (yfp H K (k::ls) nm te s ((es.drop i).take len))) False
       | _=>False
     | none=>False
   | _,_,_=>(zel E nm t tx s x).hR3 H K ls
 | _,_=>False
theorem ypd {E:Env}{H:zah}{K:KR}{ls:List Nat}{nm:Nat}{t tx:TypeId}{s x:AV}(h:apd3 E H K ls nm t tx s x):(zel E nm t tx s x).hR3 H K ls:=by
 unfold apd3 at h;split at h<;>first|exact h.elim|skip
 rename_i ti tix hti htix;have key:∀e e' te,ti.desc = .slice e→tix.desc = .slice e'→E.ti e=some te→(Rd.req (Nat.blt 0 te.size) (zod te.size x (appR nm te s))).hR3 H K ls→(zel E nm t tx s x).hR3 H K ls:=by
  intro e e' te hd hdx hte hh;unfold zel zba;rw[hti,htix];dsimp only;rw[hd,hdx];dsimp only;rw[yky hte];exact hh
 split at h
 · rename_i e k n hd hdx
   split at h<;>first|exact h.elim|skip
   unfold zel zba;rw[hti,htix];dsimp only;rw[hd,hdx];exact ypc h
 · rename_i e e' hd hdx
   split at h<;>first|exact h.elim|skip
   rename_i te hte;refine key e e' te hd hdx hte ?_;show cond _ _ _;cases hb:Nat.blt 0 te.size with
   | false=>rw[hb] at h;exact h.elim
   | true =>
     rw[hb] at h;simp only[cond_true] at h ⊢;show cond true _ _;simp only[cond_true];cases hl:lenA s with
     | none=>rw[hl] at h;exact h.elim
     | some n=>rw[hl] at h;exact h
 · rename_i e e' sz es hd hdx
   split at h<;>first|exact h.elim|skip
   rename_i te hte;refine key e e' te hd hdx hte ?_;show cond _ _ _;cases hb:Nat.blt 0 te.size && sz == te.size with
   | false=>rw[hb] at h;exact h.elim
   | true =>
     rw[hb] at h;simp only[Bool.and_eq_true] at hb;rw[hb.1];simp only[cond_true] at h ⊢;show cond (sz == te.size) _ _;rw[hb.2];exact ycy h
 · rename_i e e' k i len sz hd hdx
   split at h<;>first|exact h.elim|skip
   rename_i te hte;refine key e e' te hd hdx hte ?_;show cond _ _ _;split at h<;>first|exact h.elim|skip
   rename_i sz' es hk;cases hb:Nat.blt 0 te.size && sz == te.size && sz' == te.size with
   | false=>rw[hb] at h;exact h.elim
   | true =>
     rw[hb] at h;simp only[cond_true] at h;obtain⟨h1,h⟩:=h;simp only[Bool.and_eq_true] at hb;rw[hb.1.1];simp only[cond_true,zod,Rd.hR3,zq9 hk,zjv];rw[hb.1.2,hb.2,h1];exact ycy h
 · exact h
def yiq (H:zah)(K:KR)(l:List Nat)(x:AV)(str:Bool):Prop:=
 match x,str with
 | .ptr k 0 0, true => match H.get k with
   | some (.sit s pos)=>cond (Nat.ble (k+2) 16777216) (Br (Nat.blt pos s.length) (K (.tup [.bool true,.int .i64 pos,.int .i32 (decC s pos)]) [(k,some (.sit s (pos+decW s pos)))] (k::l)) (K (.tup [.bool false]) [] (k::l))) False
   | _=>False
 | _,_=>False
theorem yip {H:zah}{K:KR}{l:List Nat}{x:AV}{str:Bool}(h:yiq H K l x str):(zlw x str).hR3 H K l:=by
 unfold yiq at h;unfold zlw;split at h<;>first|exact h.elim|skip
 rename_i k;simp only[Rd.hR3];cases hk:H.get k with
 | none=>rw[hk] at h;exact h.elim
 | some o =>
   rw[hk] at h;cases o with
   | arr _ _=>exact h.elim
   | mp _=>exact h.elim
   | mit _ _=>exact h.elim
   | lp _ _ _ _ _=>exact h.elim
   | sit s pos =>
     rw[zq9 hk];dsimp only at h ⊢;cases hb:Nat.ble (k+2) 16777216 with
     | false=>rw[hb] at h;exact h.elim
     | true =>
       rw[hb] at h;simp only[cond_true] at h;simp only[yno,Rd.hR3,put1];cases h with
       | t h1 x=>rw[h1,hb];exact x
       | f h1 x=>rw[h1];exact x
def b2s3 (E:Env)(H:zah)(K:KR)(l:List Nat)(ts:TI)(x:AV):Prop:=
 match ts.desc with
 | .slice e => match E.ti e with
   | some te => match te.desc, x with
     | .int .u8,.nils=>K (.str []) [] l
     | .int .u8,.rsl sz es=>cond (sz == 1) (Ok3 (zgd es) fun cs=>fL AV.f0 cs fun cs'=>(hd1 cs').hR3 H K l) False
     | .int .u8, .slc k i len sz => match H.get k with
       | some (.arr sz' es)=>cond (sz == 1 && sz' == 1) (Rq (Nat.ble (i+len) es.length) (Ok3 (zgd ((es.drop i).take len)) fun cs=>fL AV.f0 cs fun cs'=>(hd1 cs').hR3 H K (k::l))) False
       | _=>False
     | _,_=>False
   | none=>False
 | _=>False
theorem ycw {E:Env}{H:zah}{K:KR}{l:List Nat}{ts:TI}{x:AV}(h:b2s3 E H K l ts x):(zlx E ts x).hR3 H K l:=by
 unfold b2s3 at h;unfold zlx;split at h<;>first|exact h.elim|skip
 rename_i e hd;rw[hd];dsimp only;unfold zba;split at h<;>first|exact h.elim|skip
 rename_i te hte;rw[hte];dsimp only;split at h<;>first|exact h.elim|skip
 · rename_i hk;rw[hk];exact h
 · rename_i sz es hk
   rw[hk];dsimp only;show cond (sz == 1) _ _;cases hs:sz == 1 with
   | false=>rw[hs] at h;exact h.elim
   | true=>rw[hs] at h;exact Ok3.c h
 · rename_i k i len sz hk
   rw[hk];dsimp only;simp only[Rd.hR3];split at h<;>first|exact h.elim|skip
   rename_i sz' es hg;rw[zq9 hg];simp only[zjv,Rd.hR3];cases hs:sz == 1 && sz' == 1 with
   | false=>rw[hs] at h;exact h.elim
   | true =>
     rw[hs] at h;simp only[cond_true] at h;obtain⟨h1,h2⟩:=h;rw[h1];exact Ok3.c h2
def yjz (E:Env)(H:zah)(K:KR)(l:List Nat)(s d:TypeId)(x:AV):Prop:=
 match E.ti s,E.ti d with
 | some ts, some td => match td.desc, x with
   | .int k,.int _ n=>K (.int k (wr k n)) [] l
   | .string,.str t=>K (.str t) [] l
   | .string,.int _ n=>K (.str (Utf8.encode n).data.toList) [] l
   | .string,.nils=>b2s3 E H K l ts .nils
   | .string,.rsl a b=>b2s3 E H K l ts (.rsl a b)
   | .string,.slc a b c e=>b2s3 E H K l ts (.slc a b c e)
   | .slice e, .str t => match E.ti e with
     | some te => match te.desc with
       | .int .u8=>K (.rsl 1 (t.map fun b=>[.int .u8 b.toNat])) [] l
       | _=>False
     | none=>False
   | .slice _,.slc _ _ _ _=>(zej E s d x).hR3 H K l
   | _,_=>False
 | _,_=>False
theorem yjy {E:Env}{H:zah}{K:KR}{l:List Nat}{s d:TypeId}{x:AV}(h:yjz E H K l s d x):(zej E s d x).hR3 H K l:=by
 unfold yjz at h;unfold zej zba;split at h<;>first|exact h.elim|skip
 rename_i ts td hts htd;rw[hts,htd];dsimp only;split at h<;>first|exact h.elim|skip
 · rename_i k _ n hd;rw[hd];exact h
 · rename_i t hd;rw[hd];exact h
 · rename_i k n hd;rw[hd];exact h
 · rename_i hd;rw[hd];exact ycw h
 · rename_i a b hd;rw[hd];exact ycw h
 · rename_i a b c e hd;rw[hd];exact ycw h
 · rename_i e t hd
   rw[hd];dsimp only;split at h<;>first|exact h.elim|skip
   rename_i te hte;rw[hte];dsimp only;split at h<;>first|exact h.elim|skip
   rename_i hk;rw[hk];exact h
 · unfold zej zba at h
   rw[hts,htd] at h;exact h
def yb0 (E:Env)(H:zah)(K:KR)(l:List Nat)(t:TypeId)(x:AV):Prop:=
 match E.ti t with
 | some ti => match ti.desc, x with
   | .slice e, .slc k i len sz => match E.ti e with
     | some te => match H.get k with
       | some (.arr sz' es) => cond (Nat.blt 0 te.size && te.zero.all AV.one && sz == te.size && sz' == te.size) (Rq (Nat.ble (i+len) es.length)
        (cond (Nat.ble (k+2) 16777216) (K (.tup []) [(k,some (.arr te.size (es.take i++List.replicate len te.zero++es.drop (i+len))))] (k::l)) False)) False
       | _=>False
     | none=>False
   | _,_=>False
 | none=>False
theorem yfa {E:Env}{H:zah}{K:KR}{l:List Nat}{t:TypeId}{x:AV}(h:yb0 E H K l t x):(zk3 E t x).hR3 H K l:=by
 unfold yb0 at h;unfold zk3 zba;split at h<;>first|exact h.elim|skip
 rename_i ti hti;rw[hti];dsimp only;split at h<;>first|exact h.elim|skip
 rename_i e k i len sz hd;rw[hd];dsimp only;split at h<;>first|exact h.elim|skip
 rename_i te hte;rw[hte];dsimp only;simp only[Rd.hR3];split at h<;>first|exact h.elim|skip
 rename_i sz' es hg;rw[zq9 hg];simp only[zjv,Rd.hR3];cases hs:Nat.blt 0 te.size && te.zero.all AV.one && sz == te.size && sz' == te.size with
 | false=>rw[hs] at h;exact h.elim
 | true =>
   rw[hs] at h;simp only[cond_true] at h ⊢;obtain⟨h1,h2⟩:=h;rw[h1];simp only[cond_true];exact h2
def sem3 (lz:Bool)(E:Env)(nm:Nat)(ρ:Operand→AV)(H:zah)(K:KR)(l:List Nat)(op:Op):Prop:=
 match op with
 | .binOp op t x y _=>bin3 lz E H K l op t (zb6 x || zb6 y) (ρ x) (ρ y)
 | .indexAddr t x i=>ixA3 E K l t (ρ x) (ρ i)
 | .index t x i=>ix3 E H K l t (ρ x) (ρ i)
 | .slice t x lo hi mx=>sl3 E H K l t (ρ x) (lo.map ρ) (hi.map ρ) (mx.map ρ)
 | .makeSlice t n c=>mk3 E K l nm t (ρ n) (ρ c)
 | .next x str=>yiq H K l (ρ x) str
 | .convert s d x=>yjz E H K l s d (ρ x)
 | .call { callee := .builtin .append, args, argTypes } => match argTypes.toList, args.toList.map ρ with
   | [t,tx],[s,x]=>apd3 E H K l nm t tx s x
   | _,_=>False
 | .call { callee := .builtin .clear, args, argTypes } => match argTypes.toList, args.toList.map ρ with
   | [t],[x]=>yb0 E H K l t x
   | _,_=>False
 | op=>(sem E nm ρ op).hR3 H K l
theorem yf9 {lz:Bool}{E:Env}{nm:Nat}{ρ:Operand→AV}{H:zah}{K:KR}{l:List Nat}{op:Op}(h:sem3 lz E nm ρ H K l op):(sem E nm ρ op).hR3 H K l:=by
 unfold sem3 at h;split at h
 · exact yo5 h
 · exact yoa h
 · exact yp6 h
 · exact ypu h
 · exact yp5 h
 · exact yip h
 · exact yjy h
 · simp only [sem]
   split at h<;>first|exact h.elim|skip
   rename_i h1 h2;simp only[zhc];rw[h1,h2];exact ypd h
 · simp only [sem]
   split at h<;>first|exact h.elim|skip
   rename_i h1 h2;simp only[zhc];rw[h1,h2];exact yfa h
 · exact h
theorem Rd.holdsR_holds {H:zah}{K:Eff→Prop}{Kp:AV→Prop}:∀{r:Rd} {l:List Nat},r.holdsR H (fun e _=>K e) l→r.holds H K Kp
 | .ret e,_,h=>h
 | .pan v,_,h=>h.elim
 | .rd k f, l, h => by
   simp only[holdsR] at h;simp only[holds];cases e:H.get k with
   | none=>rw[e] at h;exact h.elim
   | some o=>rw[e] at h;exact holdsR_holds h
 | .req b r,l,h=>⟨h.1,holdsR_holds h.2⟩
 | .br b r s,l,h=>⟨fun e=>holdsR_holds (h.1 e),fun e=>holdsR_holds (h.2 e)⟩
 | .opt o f, l, h => by
   obtain⟨x,hx,h⟩:=h;exact⟨x,hx,holdsR_holds h⟩
 | .fail,_,h=>h.elim
theorem zwu {lz:Bool}{E:Env}{nm:Nat}{ρ:Operand→AV}{H:zah}{K:AV→List (Nat×Option AObj)→Prop}{Kp:AV→Prop}{op:Op}(h:sem3 lz E nm ρ H (fun v up _=>K v up) [] op) :
 (sem E nm ρ op).holds H (fun e=>K e.val e.up) Kp:=Rd.holdsR_holds (Rd.hR3_s (yf9 h))
section
variable (P:Program) (E:Env)
def yox (nx:Nat)(f:AV)(args:List AV)(S:St)(dst:Option Tmp)(next:Nat→St→Prop)(K:AX→Nat→St→Prop):Prop:=
 match f with
 | .fn (.func g) first cap => fL AV.f1 (first ++ args ++ cap) fun args' => DC P E g args' S.heap nx fun ae H' nx' => match ae with
   | .ret v=>match S with|⟨sl,n,_,_⟩=>put3 sl n dst v H' (next nx')
   | .pan v=>K (.pan v) nx' (S.put none .any H' 0)
 | .mapp k => fL AV.f1 args fun args' => DY P E k args' S.heap nx fun ae H' nx' => match ae with
   | .ret v=>match S with|⟨sl,n,_,_⟩=>put3 sl n dst v H' (next nx')
   | .pan v=>K (.pan v) nx' (S.put none .any H' 0)
 | _=>False
def op3 (nm nx:Nat)(o:Oper)(S:St)(next:Nat→St→Prop)(K:AX→Nat→St→Prop):Prop:=
 match S with
 | ⟨sl, n, H, x⟩ => cond (zbw ⟨sl, n, H, x⟩ o.dst) (match o.op with
   | .call { callee := .value f,args,.. }=>yox P E nx (St.ev E ⟨sl,n,H,x⟩ f) (args.toList.map (St.ev E ⟨sl,n,H,x⟩)) ⟨sl,n,H,x⟩ o.dst next K
   | .panic y=>(sem E nm (St.ev E ⟨sl,n,H,x⟩) (.panic y)).h3 H (fun v up=>upd3 H (fun H'=>put3 sl n o.dst v H' (next nx)) up) (fun v=>v.f1 fun v'=>K (.pan v') nx ⟨sl,n,H,x⟩)
   | op=>sem3 false E nm (St.ev E ⟨sl,n,H,x⟩) H (fun v up _=>upd3 H (fun H'=>put3 sl n o.dst v H' (next nx)) up) [] op) False
def zrc (ops:List Oper)(S:St)(g:Option (Nat×Bool))(p q:Prop):Prop:=
 match g with
 | none=>p
 | some (j, want) => match zcx ops S j want with
   | some b=>cond b p q
   | none=>False
def zih (ops:List Oper)(base:Nat)(K:AX→Nat→St→Prop):List Oper→Nat→Nat→St→Prop
 | [],_,nx,S=>K .normal nx S
 | o::rest,i,nx,S=>zrc ops S o.guard (op3 P E (base+i) nx o S (zih ops base K rest (i+1)) K)
  (match S with|⟨sl,n,H,x⟩=>cond (zbw ⟨sl,n,H,x⟩ o.dst) (put3 sl n o.dst (.tup []) H (zih ops base K rest (i+1) nx)) False)
def DV (nm:Nat)(f:AV)(args:List AV)(H:zah)(R:AV→List (Nat×Option AObj)→List Nat→Prop):Prop:=
 (∃v rds,CallV P E f args H v rds∧R v [] rds)∨∃v up,yk4 P E nm f args v up∧R v up []
def chk3 (masks:List Nat)(i:Nat)(rds:List Nat)(up:List (Nat×Option AObj))(acc wacc:List (Nat×List Nat×List Nat)):Bool:=
 match up with
 | []=>wacc.all fun (j,_,k)=>disj k rds || comp masks i j
 | up=>(up.all fun p=>Nat.ble (p.1+2) 16777216) && acc.all fun (j,r,k)=>(disj (up.map (·.1)) r && disj (up.map (·.1)) k && disj k rds) || comp masks i j
def ck3 (masks:List Nat)(i:Nat)(rds:List Nat)(up:List (Nat×Option AObj))(acc wacc:List (Nat×List Nat×List Nat))(X:Prop):Prop:=
 match up,wacc with
 | [],[]=>X
 | up,wacc=>Rq (chk3 masks i rds up acc wacc) X
def opD3 (lz:Bool)(nm:Nat)(o:Oper)(S:St)(next:AV→List (Nat×Option AObj)→List Nat→Prop):Prop:=
 match S with
 | ⟨sl, n, H, x⟩ => cond (zbw ⟨sl, n, H, x⟩ o.dst) (match o.op with
   | .call { callee := .value f,args,.. }=>(St.ev E ⟨sl,n,H,x⟩ f).f1 fun f'=>fL AV.f1 (args.toList.map (St.ev E ⟨sl,n,H,x⟩)) fun args'=>DV P E nm f' args' H fun v up rds=>v.f2L lz fun v'=>next v' up rds
   | op=>sem3 lz E nm (St.ev E ⟨sl,n,H,x⟩) H (fun v up l=>v.f2L lz fun v'=>next v' up l) [] op) False
def app3 (S:St)(dst:Option Tmp)(v:AV)(up:List (Nat×Option AObj))(k:St→Prop):Prop:=
 match S with
 | ⟨sl, n, H, _⟩ => upd3 H (fun H' => match dst with
   | none=>k ⟨sl,n,H',0⟩
   | some d=>k ⟨.put d (some v) sl,n,H',0⟩) up
def awD3 (lz:Bool)(ops:List Oper)(base:Nat)(masks:List Nat)(K:St→Prop):List Oper→Nat→St→List (Nat×List Nat×List Nat)→List (Nat×List Nat×List Nat)→Prop
 | [],_,S,_,_=>K S
 | o::rest,i,S,acc,wacc=>zrc ops S o.guard
  (opD3 P E lz (base + i) o S fun v up rds => ck3 masks i rds up acc wacc (app3 S o.dst v up fun S'=>match up with
    | []=>awD3 lz ops base masks K rest (i+1) S' ((i,rds,[])::acc) wacc
    | up=>awD3 lz ops base masks K rest (i+1) S' ((i,rds,up.map (·.1))::acc) ((i,rds,up.map (·.1))::wacc)))
  (cond (zbw S o.dst) (app3 S o.dst (.tup []) [] fun S'=>awD3 lz ops base masks K rest (i+1) S' ((i,[],[])::acc) wacc) False)
def zaw (ops:List Oper):Bool:=zgy ops 0 && (let m:=befs ops [];zo1 ⟨ops⟩ m)
inductive LzK (A B:Prop):Prop where
 | e (a:A)
 | l (b:B)
variable (rr:Bool)
def daw3:Code→(AX→Nat→St→Prop)→Nat→St→Prop
 | .skip,K,nx,S=>K .normal nx S
 | .label _,K,nx,S=>K .normal nx S
 | .exit i,K,nx,S=>K (.exit i) nx S
 | .goto l,K,nx,S=>K (.goto l) nx S
 | .ret,K,nx,S=>K .ret nx S
 | .region _ ops false,K,nx,S=>zih P E ops.toList nx K ops.toList 0 (nx+ops.size) S
 | .region _ ops true,K,nx,S=>zaw ops.toList=true∧LzK (awD3 P E false ops.toList nx (befs ops.toList []) (K .normal (nx+ops.size)) ops.toList 0 S [] []) (awD3 P E true ops.toList nx (befs ops.toList []) (K .normal (nx+ops.size)) ops.toList 0 S [] [])
 | .seq a b,K,nx,S=>daw3 a (fun e nx' S'=>match e with | .normal=>daw3 b K nx' S'|e=>K e nx' S') nx S
 | .cond x t e, K, nx, S => match S.ev E x with
   | .bool b=>cond b (daw3 t K nx S) (daw3 e K nx S)
   | _=>False
 | .block id body, K, nx, S => daw3 body (fun e nx' S' => match e with
   | .exit j=>cond (Nat.beq j id) (K .normal nx' S') (K (.exit j) nx' S')
   | e=>K e nx' S') nx S
 | code,K,nx,S=>DW P E rr nx code K S
end
section
variable {P:Program} {E:Env} {rr:Bool}
theorem yp3 {nm nx:Nat}{o:Oper}{S:St}{next:Nat→St→Prop}{K:AX→Nat→St→Prop}(h:op3 P E nm nx o S next K):dop1 P E nm nx o S next K:=by
 obtain⟨sl,n,H,x⟩:=S;simp only[op3] at h;cases hd:zbw ⟨sl,n,H,x⟩ o.dst with
 | false=>rw[hd] at h;exact h.elim
 | true =>
   rw[hd] at h;refine⟨hd,?_⟩;simp only[cond_true] at h;split at h
   · rename_i f args ts hop
     rw[hop];show zrm P E nx _ _ _ _ _ _;unfold yox at h;unfold zrm;split at h
     · rename_i g first cap hev
       rw[hev];have:=fL_s (fun _ _ h=>AV.f1_s h) h
       refine DC.mono this fun ae H' nx' hr=>?_
       cases ae with
       | ret v=>exact zka hr
       | pan v=>exact hr
     · rename_i k hev
       rw[hev];have:=fL_s (fun _ _ h=>AV.f1_s h) h
       refine DY.mono this fun ae H' nx' hr=>?_
       cases ae with
       | ret v=>exact zka hr
       | pan v=>exact hr
     · exact h.elim
   · rename_i y hop
     have:(sem E nm (St.ev E ⟨sl,n,H,x⟩) (.panic y)).holds H (fun eff=>next nx ((⟨sl,n,H,x⟩:St).put o.dst eff.val (Eff.upd H eff.up) 0)) (fun v=>K (.pan v) nx ⟨sl,n,H,x⟩):=
      Rd.holds_mono (fun e he=>zka (zp4 (k:=fun H'=>put3 sl n o.dst e.val H' (next nx)) he)) (fun v hv=>AV.f1_s (k:=fun v'=>K (.pan v') nx ⟨sl,n,H,x⟩) hv) (Rd.h3_s h)
     rw[hop];exact this
   · rename_i hop _
     have:(sem E nm (St.ev E ⟨sl,n,H,x⟩) o.op).holds H (fun eff=>next nx ((⟨sl,n,H,x⟩:St).put o.dst eff.val (Eff.upd H eff.up) 0)) (fun v=>K (.pan v) nx ⟨sl,n,H,x⟩):=
      Rd.holds_mono (fun e he=>zka (zp4 (k:=fun H'=>put3 sl n o.dst e.val H' (next nx)) he)) (fun v hv=>hv) (zwu (Kp:=fun v=>K (.pan v) nx ⟨sl,n,H,x⟩) h)
     split
     · rename_i f args ts he;exact absurd he (hop f args ts)
     · exact this
theorem ybl {A B A' B':Prop}{b:Bool}(h:cond b A B)(ha:A→A')(hb:B→B'):(b=true→A')∧(b=false→B'):=by
 cases b
 · exact⟨(fun h=>by cases h),fun _=>hb h⟩
 · exact⟨fun _=>ha h,fun h=>by cases h⟩
theorem zg1 {ops:List Oper}{base:Nat}{K:AX→Nat→St→Prop}:∀(rest:List Oper) {i nx:Nat} {S:St},zih P E ops base K rest i nx S→zer P E ops base K rest i nx S
 | [],i,nx,S,h=>h
 | o :: rest, i, nx, S, h => by
   have hp:op3 P E (base+i) nx o S (zih P E ops base K rest (i+1)) K→dop1 P E (base+i) nx o S (zer P E ops base K rest (i+1)) K:=by
    intro h;obtain⟨hd,h⟩:=yp3 h;refine⟨hd,?_⟩;split at h
    · unfold zrm at h ⊢
      split at h
      · refine DC.mono h fun ae H' nx' hr => ?_
        cases ae with
        | ret v=>exact zg1 rest hr
        | pan v=>exact hr
      · refine DY.mono h fun ae H' nx' hr => ?_
        cases ae with
        | ret v=>exact zg1 rest hr
        | pan v=>exact hr
      · exact h.elim
    · exact Rd.holds_mono (fun e he=>zg1 rest he) (fun _ h=>h) h
   have hq:(match S with|⟨sl,n,H,x⟩=>cond (zbw ⟨sl,n,H,x⟩ o.dst) (put3 sl n o.dst (.tup []) H (zih P E ops base K rest (i+1) nx)) False)→(zbw S o.dst=true∧zer P E ops base K rest (i+1) nx (S.put o.dst (.tup []) S.heap 0)):=by
    obtain⟨sl,n,H,x⟩:=S;intro h;dsimp only at h;cases hd:zbw ⟨sl,n,H,x⟩ o.dst with
    | false=>rw[hd] at h;exact h.elim
    | true =>
      rw[hd] at h;exact⟨rfl,zg1 rest (zka h)⟩
   simp only[zih,zrc] at h;simp only[zer,gate];cases hg:o.guard with
   | none=>rw[hg] at h;exact hp h
   | some p =>
     obtain⟨j,want⟩:=p;rw[hg] at h;dsimp only at h ⊢;cases hv:zcx ops S j want with
     | none=>rw[hv] at h;exact h.elim
     | some b =>
       rw[hv] at h;exact ybl h hp hq
theorem zwb {masks:List Nat}{i:Nat}{rds:List Nat}{up:List (Nat×Option AObj)}{acc wacc:List (Nat×List Nat×List Nat)}(hw:∀p∈acc,p.2.2≠[]→p∈wacc)(v:AV)(h:chk3 masks i rds up acc wacc=true):chk masks i ⟨v,up,rds⟩ acc=true:=by
 cases up with
 | nil =>
   simp only[chk3,List.all_eq_true] at h;simp only[chk,DE.keys,List.all_nil,Bool.true_and,List.map_nil,List.all_eq_true]
   rintro⟨j,r,k⟩ hp
   cases k with
   | nil=>simp[disj]
   | cons a k =>
     have:=h _ (hw _ hp (by simp))
     simp only[Bool.or_eq_true] at this ⊢;rcases this with h|h
     · exact .inr (by simp[disj] at h ⊢;exact h)
     · exact .inl h
 | cons a up =>
   simp only[chk3,Bool.and_eq_true,List.all_eq_true] at h;simp only[chk,Bool.and_eq_true,List.all_eq_true];refine⟨h.1,?_⟩
   rintro⟨j,r,k⟩ hp
   have:=h.2 _ hp;simp only[Bool.or_eq_true] at this ⊢;exact this.symm
theorem yqm {masks:List Nat}{i:Nat}{rds:List Nat}{up:List (Nat×Option AObj)}{acc wacc:List (Nat×List Nat×List Nat)}{X:Prop}(h:ck3 masks i rds up acc wacc X):cond (chk3 masks i rds up acc wacc) X False:=by
 unfold ck3 at h;split at h
 · exact h
 · exact h.c
theorem zwi {S:St}{o:Oper}{v:AV}{up:List (Nat×Option AObj)}{rds:List Nat}{k:St→Prop}{n:Nat}(h:app3 S o.dst v up k):∃S',k S'∧(S.at_ n).app o ⟨v,up,rds⟩=S'.at_ n:=by
 obtain⟨sl,m,H,x⟩:=S;simp only[app3] at h;have:=zp4 h;unfold St.app St.put;cases hd:o.dst with
 | none=>rw[hd] at this;exact⟨_,this,rfl⟩
 | some d=>rw[hd] at this;exact⟨_,this,rfl⟩
theorem zwg {lz:Bool}{ops:List Oper}{base:Nat}{masks:List Nat}{K:St→Prop}{n:Nat}:∀(rest:List Oper) {i:Nat} {S:St} {acc wacc:List (Nat×List Nat×List Nat)},(∀p∈acc,p.2.2≠[]→p∈wacc) →
 awD3 P E lz ops base masks K rest i S acc wacc→∃S',K S'∧awD P E ops base masks (fun s=>s=S'.at_ n) rest i (S.at_ n) acc
 | [],i,S,acc,wacc,_,h=>⟨S,h,rfl⟩
 | o :: rest, i, S, acc, wacc, hw, h => by
   have hp : (opD3 P E lz (base + i) o S fun v up rds => ck3 masks i rds up acc wacc (app3 S o.dst v up fun S'=>match up with
    | []=>awD3 P E lz ops base masks K rest (i+1) S' ((i,rds,[])::acc) wacc
    | up=>awD3 P E lz ops base masks K rest (i+1) S' ((i,rds,up.map (·.1))::acc) ((i,rds,up.map (·.1))::wacc))) →
    ∃S',K S'∧dop P E (base+i) o (S.at_ n) fun d=>chk masks i d acc=true∧awD P E ops base masks (fun s=>s=S'.at_ n) rest (i+1) ((S.at_ n).app o d) ((i,d.rds,d.keys)::acc):=by
    intro h;have go : ∀ v up rds, (ck3 masks i rds up acc wacc (app3 S o.dst v up fun S'=>match up with
     | []=>awD3 P E lz ops base masks K rest (i+1) S' ((i,rds,[])::acc) wacc
     | up=>awD3 P E lz ops base masks K rest (i+1) S' ((i,rds,up.map (·.1))::acc) ((i,rds,up.map (·.1))::wacc))) →
     ∃S',K S'∧chk masks i ⟨v,up,rds⟩ acc=true∧awD P E ops base masks (fun s=>s=S'.at_ n) rest (i+1) ((S.at_ n).app o ⟨v,up,rds⟩) ((i,rds,up.map (·.1))::acc):=by
     intro v up rds h
     replace h:=yqm h
     cases hc:chk3 masks i rds up acc wacc with
     | false=>rw[hc] at h;exact h.elim
     | true =>
       rw[hc] at h;simp only[cond_true] at h;obtain⟨S1,h1,h2⟩:=zwi (n:=n) (rds:=rds) h;rw[h2];cases up with
       | nil =>
         dsimp only at h1;obtain ⟨S', g1, g2⟩ := zwg rest (fun p hp hne=>by
          rcases List.mem_cons.1 hp with rfl|hp
          · exact absurd (by rfl) hne
          · exact hw p hp hne) h1
         exact⟨S',g1,zwb hw v hc,g2⟩
       | cons a up =>
         dsimp only at h1;obtain ⟨S', g1, g2⟩ := zwg rest (fun p hp hne=>by
          rcases List.mem_cons.1 hp with rfl|hp
          · exact List.mem_cons_self
          · exact List.mem_cons_of_mem _ (hw p hp hne)) h1
         exact⟨S',g1,zwb hw v hc,g2⟩
    obtain⟨sl,m,H,x⟩:=S;simp only[opD3] at h;cases hd:zbw ⟨sl,m,H,x⟩ o.dst with
    | false=>rw[hd] at h;exact h.elim
    | true =>
      rw[hd] at h;simp only[cond_true] at h;unfold dop;split at h
      · rename_i f args ts hop
        have h:=fL_s (fun _ _ h=>AV.f1_s h) (AV.f1_s h)
        rcases h with⟨v,rds,hcv,h⟩|⟨v,up,hcv,h⟩
        · obtain ⟨S', g1, g2, g3⟩ := go v [] rds (AV.f2L_s h)
          refine⟨S',g1,hd,?_⟩;rw[hop];exact .inl ⟨v,rds,hcv,g2,g3⟩
        · obtain ⟨S', g1, g2, g3⟩ := go v up [] (AV.f2L_s h)
          refine⟨S',g1,hd,?_⟩;rw[hop];exact .inr ⟨v,up,hcv,g2,g3⟩
      · rename_i hop
        obtain⟨e,l,h1,h2⟩:=Rd.holdsR_one (Rd.hR3_s (yf9 h));obtain⟨S',g1,g2,g3⟩:=go e.val e.up l (AV.f2L_s h1);refine⟨S',g1,hd,?_⟩;have:(sem E (base+i) (St.ev E ((⟨sl,m,H,x⟩:St).at_ n)) o.op).holdsR ((⟨sl,m,H,x⟩:St).at_ n).heap (fun eff l=>chk masks i ⟨eff.val,eff.up,l⟩ acc=true∧awD P E ops base masks (fun s=>s=S'.at_ n) rest (i+1) (((⟨sl,m,H,x⟩:St).at_ n).app o ⟨eff.val,eff.up,l⟩) ((i,l,eff.up.map (·.1))::acc)) []:=
         Rd.holdsR_mono (fun e' l' he=>by obtain⟨rfl,rfl⟩:=he;exact⟨g2,g3⟩) h2
        split
        · rename_i f args ts he;exact absurd he (hop f args ts)
        · exact this
   have hq:cond (zbw S o.dst) (app3 S o.dst (.tup []) [] fun S'=>awD3 P E lz ops base masks K rest (i+1) S' ((i,[],[])::acc) wacc) False →
    ∃S',K S'∧zbw S o.dst=true∧awD P E ops base masks (fun s=>s=S'.at_ n) rest (i+1) ((S.at_ n).app o ⟨.tup [],[],[]⟩) ((i,[],[])::acc):=by
    intro h;cases hd:zbw S o.dst with
    | false=>rw[hd] at h;exact h.elim
    | true =>
      rw[hd] at h;simp only[cond_true] at h;obtain⟨S1,h1,h2⟩:=zwi (n:=n) (rds:=[]) h;rw[h2];obtain ⟨S', g1, g2⟩ := zwg rest (fun p hp hne=>by
       rcases List.mem_cons.1 hp with rfl|hp
       · exact absurd (by rfl) hne
       · exact hw p hp hne) h1
      exact⟨S',g1,rfl,g2⟩
   have hgv:∀j b,zcx ops (S.at_ n) j b=zcx ops S j b:=fun _ _=>rfl
   have hdst:zbw (S.at_ n) o.dst=zbw S o.dst:=rfl;simp only[awD3,zrc] at h;simp only[awD,gate,hgv,hdst];cases hg:o.guard with
   | none=>rw[hg] at h;exact hp h
   | some p =>
     obtain⟨j,want⟩:=p;rw[hg] at h;dsimp only at h ⊢;cases hv:zcx ops S j want with
     | none=>rw[hv] at h;exact h.elim
     | some b =>
       rw[hv] at h;dsimp only at h ⊢;cases hb:b with
       | true =>
         rw[hb] at h;obtain⟨S',g1,g2⟩:=hp h;exact⟨S',g1,fun _=>g2,fun h=>by cases h⟩
       | false =>
         rw[hb] at h;obtain⟨S',g1,g2⟩:=hq h;exact⟨S',g1,(fun h=>by cases h),fun _=>g2⟩
theorem zv7 {ops:Array Oper}(h:zaw ops.toList=true):zgy ops.toList 0=true∧zo1 ops (befs ops.toList [])=true:=by
 simp only[zaw,Bool.and_eq_true] at h;exact h
theorem yc5 (hE:EnvOK P E)(hmix:P.follows .mixedOrders=true){id:Nat}{ops:Array Oper}{nx:Nat}{K:AX→Nat→St→Prop}{S:St}(hd:zaw ops.toList=true)
 {lz:Bool}(h:awD3 P E lz ops.toList nx (befs ops.toList []) (K .normal (nx+ops.size)) ops.toList 0 S [] []):DW P E rr nx (.region id ops true) K S:=by
 obtain⟨S',h1,h2⟩:=zwg (n:=nx+ops.size) ops.toList (fun p hp=>by cases hp) h
 obtain⟨he,hs⟩:=zv7 hd;exact⟨.normal,nx+ops.size,S',yc2 hE hmix he hs (zjh (fun s hs=>⟨rfl,hs⟩) ops.toList h2),h1⟩
theorem zbq (hE:EnvOK P E)(hmix:P.follows .mixedOrders=true):∀(code:Code) {K:AX→Nat→St→Prop} {nx:Nat} {S:St},daw3 P E rr code K nx S→DW P E rr nx code K S
 | .skip,K,nx,S,h=>zcn hE (code := .skip) h
 | .label l,K,nx,S,h=>zcn hE (code := .label l) h
 | .exit i,K,nx,S,h=>zcn hE (code := .exit i) h
 | .goto l,K,nx,S,h=>zcn hE (code := .goto l) h
 | .ret,K,nx,S,h=>zcn hE (code := .ret) h
 | .region id ops false,K,nx,S,h=>zcn hE (code := .region id ops false) (zg1 ops.toList h)
 | .region _ ops true, K, nx, S, h => by
   obtain⟨h1,h2⟩:=h;cases h2 with
   | e h2=>exact yc5 hE hmix h1 h2
   | l h2=>exact yc5 hE hmix h1 h2
 | .seq x y, K, nx, S, h => by
   obtain⟨ax,nx',S',h1,h2⟩:=zbq hE hmix x h;cases ax with
   | normal =>
     obtain⟨ax2,nx2,S2,g1,g2⟩:=zbq hE hmix y h2;refine⟨ax2,nx2,S2,SW.seq (h1.mono fun e s he=>?_),g2⟩
     obtain⟨rfl,rfl⟩:=he;exact g1
   | exit i=>exact⟨_,nx',S',SW.seq (h1.mono fun e s he=>by obtain⟨rfl,rfl⟩:=he;exact⟨rfl,rfl⟩),h2⟩
   | goto i=>exact⟨_,nx',S',SW.seq (h1.mono fun e s he=>by obtain⟨rfl,rfl⟩:=he;exact⟨rfl,rfl⟩),h2⟩
   | ret=>exact⟨_,nx',S',SW.seq (h1.mono fun e s he=>by obtain⟨rfl,rfl⟩:=he;exact⟨rfl,rfl⟩),h2⟩
   | pan v=>exact⟨_,nx',S',SW.seq (h1.mono fun e s he=>by obtain⟨rfl,rfl⟩:=he;exact⟨rfl,rfl⟩),h2⟩
 | .cond x t e, K, nx, S, h => by
   simp only[daw3] at h;cases hx:S.ev E x<;>rw[hx] at h<;>first|exact h.elim|skip
   rename_i b;cases b with
   | true =>
     obtain⟨ax,nx',S',g1,g2⟩:=zbq hE hmix t h;refine⟨ax,nx',S',fun r hrr m hm c a w hs=>?_,g2⟩
     have hr:=hs.ev x;rw[show(S.at_ nx).ev E x = .bool true from hx] at hr
     generalize hv:a.eval x=v at hr
     cases hr;exact wpIn_cond hv (g1 r hrr m hm c a w hs)
   | false =>
     obtain⟨ax,nx',S',g1,g2⟩:=zbq hE hmix e h;refine⟨ax,nx',S',fun r hrr m hm c a w hs=>?_,g2⟩
     have hr:=hs.ev x;rw[show(S.at_ nx).ev E x = .bool false from hx] at hr
     generalize hv:a.eval x=v at hr
     cases hr;exact wpIn_cond hv (g1 r hrr m hm c a w hs)
 | .block id body, K, nx, S, h => by
   obtain⟨ax,nx',S',h1,h2⟩:=zbq hE hmix body h;cases ax with
   | exit j =>
     by_cases hj:j=id
     · subst hj
       dsimp only at h2;rw[show Nat.beq j j=true by simp] at h2
       exact⟨.normal,nx',S',SW.block (h1.mono fun e s he=>by obtain⟨rfl,rfl⟩:=he;exact⟨fun _=>⟨rfl,rfl⟩,fun h=>absurd rfl h⟩),h2⟩
     · dsimp only at h2
       rw[show Nat.beq j id=false by
        cases e:Nat.beq j id with
        | false=>rfl
        | true=>exact absurd (Nat.eq_of_beq_eq_true e) hj] at h2
       exact⟨.exit j,nx',S',SW.block (h1.mono fun e s he=>by obtain⟨rfl,rfl⟩:=he;exact⟨fun h=>absurd h hj,fun _=>⟨rfl,rfl⟩⟩),h2⟩
   | normal=>exact⟨_,nx',S',SW.block (h1.mono fun e s he=>by obtain⟨rfl,rfl⟩:=he;exact⟨rfl,rfl⟩),h2⟩
   | goto i=>exact⟨_,nx',S',SW.block (h1.mono fun e s he=>by obtain⟨rfl,rfl⟩:=he;exact⟨rfl,rfl⟩),h2⟩
   | ret=>exact⟨_,nx',S',SW.block (h1.mono fun e s he=>by obtain⟨rfl,rfl⟩:=he;exact⟨rfl,rfl⟩),h2⟩
   | pan v=>exact⟨_,nx',S',SW.block (h1.mono fun e s he=>by obtain⟨rfl,rfl⟩:=he;exact⟨rfl,rfl⟩),h2⟩
 | .loop _,K,nx,S,h=>h
 | .rangeFunc ..,K,nx,S,h=>h
 | .scope _,K,nx,S,h=>h
 | .refuse _,K,nx,S,h=>h
def yam:List AV→Nat→Tr AV→(Tr AV→Prop)→Prop
 | [],_,t,k=>k t
 | x::l,i,t,k=>fN (i+1) fun i'=>yam l i' (.put i (some x) t) k
theorem zpf:∀{l:List AV} {i:Nat} {t:Tr AV} {k:Tr AV→Prop},yam l i t k→k (zd8 l i t)
 | [],_,_,_,h=>h
 | _::l,_,_,_,h=>zpf (l:=l) (fN_s h)
theorem zs8 {args:List AV}{n:Nat}(hl:Nat.ble args.length n=true)(H:zah):St.init args n H 0=⟨zd8 args 0 .nil,n,H,0⟩:=by
 have:=Nat.le_of_ble_eq_true hl;unfold St.init
 congr 1
 omega
end
end Go.Ago
end
