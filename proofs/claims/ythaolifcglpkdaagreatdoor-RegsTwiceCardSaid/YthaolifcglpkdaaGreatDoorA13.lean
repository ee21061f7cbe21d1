/-
  Part A13: lemmas, each with its own conditions.
-/
import Derived.Test.YthaolifcglpkdaaGreatDoorA12
set_option maxRecDepth 100000
set_option maxHeartbeats 0
set_option linter.all false
section
namespace Go.Ago
open List Nat
def AV.f0 (v:AV)(k:AV->Prop):Prop:=
 match v with
 | .any=>k .any
 | .bool b=>k (.bool b)
 | .int i n=>k (.int i n)
 | .str l=>k (.str l)
 | .dF=>k .dF
 | .ptr a i o=>k (.ptr a i o)
 | .bq d=>k (.bq d)
 | .ah=>k .ah
 | .cW=>k .cW
 | .az a i n s=>k (.az a i n s)
 | .ak s c=>k (.ak s c)
 | .fO=>k .fO
 | .fT a=>k (.fT a)
 | .cY a=>k (.cY a)
 | .cK c=>k (.cK c)
 | .fn f g h=>k (.fn f g h)
 | .cZ=>k .cZ
 | .cG t v=>k (.cG t v)
 | .eH=>k .eH
 | .agg d=>k (.agg d)
 | .ao e=>k (.ao e)
def fL (f:AV->(AV->Prop)->Prop):List AV->(List AV->Prop)->Prop
 | [],k=>k []
 | x::l,k=>f x fun b=>fL f l fun a=>k (b::a)
def AV.fa (v:AV)(k:AV->Prop):Prop:=
 match v with
 | .agg b=>fL AV.f0 b fun a=>k (.agg a)
 | .bq b=>fL AV.f0 b fun a=>k (.bq a)
 | v=>v.f0 k
def AV.f1 (v:AV)(k:AV->Prop):Prop:=
 match v with
 | .cG t v=>v.fa fun c=>k (.cG t c)
 | .fn f e d=>fL AV.fa e fun a=>fL AV.fa d fun b=>k (.fn f a b)
 | v=>v.fa k
def AV.f2 (v:AV)(k:AV->Prop):Prop:=
 match v with
 | .bool b=>cond b (k (.bool true)) (k (.bool false))
 | .ao c=>fL AV.f1 c fun a=>k (.ao a)
 | v=>v.f1 k
def AV.uj (b:Bool)(v:AV)(k:AV->Prop):Prop:=
 match b with
 | true => match v with
   | .ao c=>fL AV.f1 c fun a=>k (.ao a)
   | v=>v.f1 k
 | false=>v.f2 k
theorem AV.wN {v:AV}{k:AV->Prop}(h:v.f0 k):k v:=by cases v<;>exact h
theorem gj {f:AV->(AV->Prop)->Prop}(b:∀x k,f x k->k x):∀{l:List AV} {k:List AV->Prop},fL f l k->k l
 | [],_,h=>h
 | _::l,_,h=>gj b (l:=l) (b _ _ h)
theorem AV.wP {v:AV}{k:AV->Prop}(h:v.fa k):k v:=by
 cases v<;>first|exact gj (fun _ _ h=>AV.wN h) h|exact AV.wN h
theorem AV.gi {v:AV}{k:AV->Prop}(h:v.f1 k):k v:=by
 cases v<;>first|exact AV.wP (k:=fun v=>k (.cG _ v)) h|exact gj (fun _ _ h=>AV.wP h) (gj (fun _ _ h=>AV.wP h) h)|exact AV.wP (k:=k) h
theorem AV.Gt {v:AV}{k:AV->Prop}(h:v.f2 k):k v:=by
 cases v<;>first|exact gj (fun _ _ h=>AV.gi h) h|exact AV.gi (k:=k) h|skip
 rename_i b;cases b<;>exact h
theorem AV.ot {a:Bool}{v:AV}{k:AV->Prop}(h:v.uj a k):k v:=by
 cases a with
 | false=>exact AV.Gt h
 | true=>cases v<;>first|exact gj (fun _ _ h=>AV.gi h) h|exact AV.gi h
def fN (n:Nat)(k:Nat->Prop):Prop:=
 match n with
 | 0=>k 0
 | m+1=>k (m+1)
theorem rO {n:Nat}{k:Nat->Prop}(h:fN n k):k n:=by cases n<;>exact h
theorem pQ {A B:Prop}{b:Bool}(c:b=true->A)(a:b=false->B):cond b A B:=by
 grind
theorem AP {A B:Prop}{b:Bool}(c:b=true)(a:A):cond b A B:=by grind
theorem AO {A B:Prop}{b:Bool}(c:b=false)(a:B):cond b A B:=by grind
def xK (o:Option (List AV))(f:List AV->Prop):Prop:=
 match o with
 | some e=>f e
 | none=>False
theorem cb {o:Option (List AV)}{f:List AV->Prop}{e:List AV}(h:o=some e)(a:f e):xK o f:=by subst h;exact a
def dN (k:Nat)(K:an->Prop):ai->Prop
 | .nil=>False
 | .node l x r => match (Tr.node l x r).get k with
   | some o=>K o
   | none=>False
 | .put j v t => cond (beq k j) (match v with
   | some o=>K o
   | none=>False) (dN k K t)
 | .fq A N g t => cond (ble A k && blt k (A + N)) (match g (k - A) with
   | some o=>K o
   | none=>False) (dN k K t)
theorem lE {k:Nat}{K:an->Prop}:∀{H:ai},dN k K H->∃o,H.get k=some o∧K o
 | .nil,h=>h.elim
 | .node l x r, h => by
   simp only[dN] at h
   grind
 | .put j v t, h => by
   simp only[dN] at h;rw[Tr.get];cases e:beq k j with
   | true =>
     grind
   | false=>rw[e] at h;exact lE (H:=t) h
 | .fq A N g t, h => by
   simp only[dN] at h;rw[Tr.get];cases e:ble A k && blt k (A+N) with
   | true =>
     grind
   | false=>rw[e] at h;exact lE (H:=t) h
theorem rV {k:Nat}{K:an->Prop}{o:an}:∀{H:ai},H.get k=some o->K o->dN k K H
 | .nil,e,_=>by cases e
 | .node l x r, e, h => by
   simp only[dN]
   grind
 | .put j v t, e, h => by
   simp only[dN];rw[Tr.get] at e;cases b:beq k j with
   | true=>grind
   | false=>rw[b] at e;exact rV (H:=t) e h
 | .fq A N g t, e, h => by
   simp only[dN];rw[Tr.get] at e;cases b:ble A k && blt k (A+N) with
   | true=>grind
   | false=>rw[b] at e;exact rV (H:=t) e h
theorem ux {k:Nat}{K:an->Prop}{o:an}{H:ai}(e:H.get k=some o):dN k K H=K o:=
 propext ⟨fun h=>by obtain⟨b,a,h⟩:=lE h;grind,rV e⟩
def Rd.h3 (H:ai)(K:AV->List (Nat×Option an)->Prop)(Kp:AV->Prop):Rd->Prop
 | .ret e => match e with
   | ⟨v,c⟩=>K v c
 | .aR v=>Kp v
 | .rd k f=>dN k (fun o=>(f o).h3 H K Kp) H
 | .bZ b r=>cond b (r.h3 H K Kp) False
 | .br b r s=>cond b (r.h3 H K Kp) (s.h3 H K Kp)
 | .opt o f=>xK o fun e=>fL AV.f0 e fun a=>(f a).h3 H K Kp
 | .fail=>False
theorem Rd.qd {H:ai}{K:AV->List (Nat×Option an)->Prop}{Kp:AV->Prop}:∀{r:Rd},r.h3 H K Kp->r.holds H (fun e=>K e.val e.up) Kp
 | .ret e,h=>h
 | .aR v,h=>h
 | .rd k f, h => by
   simp[h3] at h;simp[holds];obtain⟨o,e,h⟩:=lE h;rw[e];exact qd h
 | .bZ b r, h => by
   cases b with
   | true=>exact⟨rfl,qd h⟩
   | false=>exact h.elim
 | .br b r s, h => by
   cases b with
   | true=>exact⟨fun _=>qd h,fun h=>by cases h⟩
   | false=>exact⟨(fun h=>by cases h),fun _=>qd h⟩
 | .opt o f, h => by
   cases o with
   | none=>exact h.elim
   | some e=>exact⟨e,rfl,qd (gj (fun _ _ h=>AV.wN h) h)⟩
 | .fail,h=>h.elim
def Rd.cI (H:ai)(K:AV->List (Nat×Option an)->List Nat->Prop):Rd->List Nat->Prop
 | .ret e, l => match e with
   | ⟨v,c⟩=>K v c l
 | .aR _,_=>False
 | .rd k f,l=>dN k (fun o=>(f o).cI H K (k::l)) H
 | .bZ b r,l=>cond b (r.cI H K l) False
 | .br b r s,l=>cond b (r.cI H K l) (s.cI H K l)
 | .opt o f,l=>xK o fun e=>fL AV.f0 e fun a=>(f a).cI H K l
 | .fail,_=>False
theorem Rd.oA {H:ai}{K:AV->List (Nat×Option an)->List Nat->Prop}:∀{r:Rd} {l:List Nat},r.cI H K l->r.gP H (fun e l=>K e.val e.up l) l
 | .ret e,_,h=>h
 | .aR v,_,h=>h.elim
 | .rd k f, l, h => by
   simp[cI] at h;simp[gP];obtain⟨o,e,h⟩:=lE h;rw[e];exact oA h
 | .bZ b r, l, h => by
   cases b with
   | true=>exact⟨rfl,oA h⟩
   | false=>exact h.elim
 | .br b r s, l, h => by
   cases b with
   | true=>exact⟨fun _=>oA h,fun h=>by cases h⟩
   | false=>exact⟨(fun h=>by cases h),fun _=>oA h⟩
 | .opt o f, l, h => by
   cases o with
   | none=>exact h.elim
   | some e=>exact⟨e,rfl,oA (gj (fun _ _ h=>AV.wN h) h)⟩
 | .fail,_,h=>h.elim
theorem Rd.qg {H:ai}{K:bk->List Nat->Prop}:∀{r:Rd} {l:List Nat},r.gP H K l->∃e l',K e l'∧r.gP H (fun j i=>j=e∧i=l') l
 | .ret e,l,h=>⟨e,l,h,rfl,rfl⟩
 | .aR v,_,h=>h.elim
 | .rd k f, l, h => by
   simp[gP] at h ⊢;cases e:H.get k with
   | none=>grind
   | some o=>rw[e] at h;exact qg h
 | .bZ b r, l, h => by
   obtain⟨rfl,h⟩:=h;obtain⟨e,l',d,c⟩:=qg h;exact⟨e,l',d,rfl,c⟩
 | .br b r s, l, h => by
   cases b with
   | true =>
     obtain⟨e,l',d,c⟩:=qg (h.1 rfl);exact⟨e,l',d,fun _=>c,fun h=>by cases h⟩
   | false =>
     obtain⟨e,l',d,c⟩:=qg (h.2 rfl);exact⟨e,l',d,(fun h=>by cases h),fun _=>c⟩
 | .opt o f, l, h => by
   obtain⟨x,rfl,h⟩:=h;obtain⟨e,l',d,c⟩:=qg h;exact⟨e,l',d,x,rfl,c⟩
 | .fail,_,h=>h.elim
theorem Rd.oB {H:ai}{K K':bk->List Nat->Prop}(c:∀e l,K e l->K' e l):∀{r:Rd} {l:List Nat},r.gP H K l->r.gP H K' l
 | .ret e,l,h=>c _ _ h
 | .aR v,_,h=>h.elim
 | .rd k f, l, h => by
   simp[gP] at *;cases e:H.get k with
   | none=>grind
   | some o=>rw[e] at h;exact oB c h
 | .bZ b r,l,h=>⟨h.1,oB c h.2⟩
 | .br b r s,l,h=>⟨fun e=>oB c (h.1 e),fun e=>oB c (h.2 e)⟩
 | .opt o f, l, h => by
   obtain⟨x,g,h⟩:=h;exact⟨x,g,oB c h⟩
 | .fail,_,h=>h.elim
theorem tY {P:Program}{E:Env}{ops:List Oper}{e:Nat}{f:List Nat}{K K':St->Prop}(m:∀s,K s->K' s):∀(c:List Oper) {i:Nat} {S:St} {acc:List (Nat×List Nat×List Nat)},fR P E ops e f K c i S acc->fR P E ops e f K' c i S acc
 | [],i,S,acc,h=>m _ h
 | o :: c, i, S, acc, h => by
   simp only[fR,gate] at h ⊢;have q:∀{d:DE->Prop} {n:DE->Prop},(∀x,d x->n x)->mY P E (e+i) o S d->mY P E (e+i) o S n:=by
    intro d n t h;refine⟨h.1,?_⟩;have h:=h.2;split at h
    . grind
    . exact Rd.oB (fun _ _ h=>t _ h) h
   cases r:o.guard with
   | none=>rw[r] at h;exact q (fun x g=>⟨g.1,tY m c g.2⟩) h
   | some p =>
     obtain⟨j,k⟩:=p;rw[r] at h;dsimp only at h ⊢;cases u:gO ops S j k with
     | none=>grind
     | some b =>
       rw[u] at h;dsimp only at h ⊢;exact⟨fun l=>q (fun x g=>⟨g.1,tY m c g.2⟩) (h.1 l),fun l=>⟨(h.2 l).1,tY m c (h.2 l).2⟩⟩
def s9 (H:ai)(k:ai->Prop):List (Nat×Option an)->Prop
 | []=>k H
 | (n,o)::l=>s9 (.put n o H) k l
theorem vm {k:ai->Prop}:∀{l:List (Nat×Option an)} {H:ai},s9 H k l->k (bk.dH H l)
 | [],_,h=>h
 | (_,_)::l,_,h=>vm (l:=l) h
def kg (b:Tr AV)(n:Nat)(a:Option Tmp)(v:AV)(H:ai)(k:St->Prop):Prop:=
 v.f2 fun c=>match a with
  | none=>k ⟨b,n,H,0⟩
  | some d=>k ⟨.put d (some c) b,n,H,0⟩
theorem oR {c:Tr AV}{n x:Nat}{h0:ai}{a:Option Tmp}{v:AV}{H:ai}{k:St->Prop}(h:kg c n a v H k):k ((⟨c,n,h0,x⟩:St).put a v H 0):=by
 have:=AV.Gt h;cases a<;>exact this
inductive Br (b:Bool)(A B:Prop):Prop where
 | t (h:b=true) (x:A)
 | f (h:b=false) (x:B)
inductive Rq (b:Bool)(A:Prop):Prop where
 | mk (h:b=true) (x:A)
inductive ay (o:Option (List AV))(f:List AV->Prop):Prop where
 | mk (e:List AV) (h:o=some e) (x:f e)
theorem Br.split {A B:Prop}{b:Bool}(c:b=true->A)(a:b=false->B):Br b A B:=by
 cases b
 . exact .f rfl (a rfl)
 exact .t rfl (c rfl)
theorem Br.c {A B:Prop}{b:Bool}(h:Br b A B):cond b A B:=by
 cases h<;>grind
theorem Rq.c {A:Prop}{b:Bool}(h:Rq b A):cond b A False:=by
 obtain⟨h,x⟩:=h;grind
theorem ay.c {o:Option (List AV)}{f:List AV->Prop}(h:ay o f):xK o f:=by
 obtain⟨e,h,x⟩:=h;subst h;exact x
abbrev KR:=AV->List (Nat×Option an)->List Nat->Prop
def pL (a:Bool)(b:Bool)(K:KR)(l:List Nat):Prop:=
 match a with
 | true=>K (.bool b) [] l
 | false=>Br b (K (.bool true) [] l) (K (.bool false) [] l)
theorem E0 {H:ai}{a b:Bool}{K:KR}{l:List Nat}(h:pL a b K l):(Rd.ret ⟨.bool b,[]⟩).cI H K l:=by
 cases a with
 | true=>exact h
 | false =>
   cases h with
   | t h x=>subst h;exact x
   | f h x=>subst h;exact x
def Ao (a:Bool)(b:Bool)(K:KR)(l:List Nat):Prop:=
 match a with
 | true=>K (.bool (!b)) [] l
 | false=>Br b (K (.bool false) [] l) (K (.bool true) [] l)
theorem E1 {H:ai}{a b:Bool}{K:KR}{l:List Nat}(h:Ao a b K l):(Rd.ret ⟨.bool (!b),[]⟩).cI H K l:=by
 cases a with
 | true=>exact h
 | false =>
   cases h with
   | t h x=>subst h;exact x
   | f h x=>subst h;exact x
def Am (d:Bool)(E:Env)(H:ai)(K:KR)(l:List Nat)(e:BinOp)(t:TypeId)(f:Bool)(x y:AV):Prop:=
 match x,y with
 | .int k a, .int c b =>
   match e with
   | .shl=>Rq (decide (0≤b)) (K (.int k (wr k (a * 2 ^ min b.toNat k.bits))) [] l)
   | .shr=>Rq (decide (0≤b)) (K (.int k (a.fdiv (2 ^ min b.toNat k.bits))) [] l)
   | .eql=>match decide (k=c) with|true=>pL d (aZ a b) K l|false=>False
   | .neq=>match decide (k=c) with|true=>Ao d (aZ a b) K l|false=>False
   | .lss=>match decide (k=c) with|true=>pL d (bN a b) K l|false=>False
   | .leq=>match decide (k=c) with|true=>pL d (bM a b) K l|false=>False
   | .gtr=>match decide (k=c) with|true=>pL d (bN b a) K l|false=>False
   | .geq=>match decide (k=c) with|true=>pL d (bM b a) K l|false=>False
   | .quo=>match decide (k=c) with|true=>Rq (!decide (b=0)) (K (.int k (wr k (a.tdiv b))) [] l)|false=>False
   | .rem=>match decide (k=c) with|true=>Rq (!decide (b=0)) (K (.int k (a.tmod b)) [] l)|false=>False
   | e=>(mz E e t f (.int k a) (.int c b)).cI H K l
 | .str a, .str b =>
   match e with
   | .add=>Rq (ble (a.length+b.length) 9223372036854775807) (K (.str (a++b)) [] l)
   | .eql=>pL d (bK a b) K l
   | .neq=>Ao d (bK a b) K l
   | e=>(mz E e t f (.str a) (.str b)).cI H K l
 | x,y=>(mz E e t f x y).cI H K l
theorem Oq {g:Bool}{E:Env}{H:ai}{K:KR}{l:List Nat}{e:BinOp}{t:TypeId}{d:Bool}{x y:AV}(h:Am g E H K l e t d x y):(mz E e t d x y).cI H K l:=by
 unfold Am at h;split at h
 . rename_i k a i b
   cases e<;>dsimp only at h<;>first|exact h|skip
   all_goals (simp only[mz])
   all_goals first
    | exact Rq.c h
    | (cases f:decide (k=i)<;>rw[f] at h<;>dsimp only at h<;>first|exact E0 h|exact E1 h|exact Rq.c h)
 . rename_i a b
   cases e<;>dsimp only at h<;>first|exact h|skip
   all_goals (simp only[mz])
   all_goals first
    | exact Rq.c h
    | exact E0 h
    | exact E1 h
 omega
def B7 (E:Env)(K:KR)(l:List Nat)(t:TypeId)(x j:AV):Prop:=
 match E.ti t with
 | some m => match m.desc, j with
   | .slice e, .int _ n => match E.ti e with
     | some c => match x with
       | .az k i a g=>cond (g == c.size) (Rq (bp n a) (K (.ptr k (i+n.toNat) 0) [] l)) False
       | .ak g h=>cond (g == c.size) (Rq (bp n h.length) (ay h[n.toNat]? fun d=>fL AV.f0 d fun b=>K (.bq b) [] l)) False
       | _=>False
     | none=>False
   | .array a e, .int _ n => match E.ti e with
     | some c => match x with
       | .ptr k i f=>Rq (bp n a) (K (.ptr k i (f+n.toNat * c.size)) [] l)
       | .bq d=>Rq (bp n a) (ay (chunk d (n.toNat * c.size) c.size) fun d=>fL AV.f0 d fun b=>K (.bq b) [] l)
       | _=>False
     | none=>False
   | _,_=>False
 | none=>False
theorem Tz {E:Env}{H:ai}{K:KR}{l:List Nat}{t:TypeId}{x q:AV}(h:B7 E K l t x q):(yF E t x q).cI H K l:=by
 unfold B7 at h;unfold yF cf;split at h<;>first|exact h.elim|skip
 rename_i s f;rw[f];dsimp only;split at h<;>first|exact h.elim|skip
 . rename_i e _ n g
   rw[g];dsimp only;split at h<;>first|exact h.elim|skip
   rename_i m a;rw[a];dsimp only;split at h<;>first|exact h.elim|skip
   . rename_i k i o j
     cases b:j == m.size with
     | false=>grind
     | true =>
       rw[b] at h;simp only[cond_true] at h;show cond (_ && _) _ _;rw[b,Bool.true_and];exact h.c
   . rename_i j r
     cases b:j == m.size with
     | false=>grind
     | true =>
       rw[b] at h;simp only[cond_true] at h;obtain⟨p,d⟩:=h;show cond (_ && _) _ _;rw[b,Bool.true_and,p];exact d.c
 . rename_i o e _ n g
   rw[g];dsimp only;split at h<;>first|exact h.elim|skip
   rename_i m a;rw[a];dsimp only;split at h<;>first|exact h.elim|skip
   . exact h.c
   . obtain ⟨p, d⟩ := h
     show cond _ _ _;rw[p];exact d.c
def B6 (E:Env)(H:ai)(K:KR)(l:List Nat)(t:TypeId)(x d:AV):Prop:=
 match E.ti t with
 | some g => match g.desc, d, x with
   | .string,.int _ n,.str s=>Rq (bp n s.length) (K (.int .u8 (s.getD n.toNat 0).toNat) [] l)
   | .array b e, .int _ n, .agg f => match E.ti e with
     | some a=>Rq (bp n b) (ay (chunk f (n.toNat * a.size) a.size) fun e=>fL AV.f0 e fun c=>(nr a c 0).cI H K l)
     | none=>False
   | _,_,_=>False
 | none=>False
theorem Tx {E:Env}{H:ai}{K:KR}{l:List Nat}{t:TypeId}{x f:AV}(h:B6 E H K l t x f):(yE E t x f).cI H K l:=by
 unfold B6 at h;unfold yE cf;split at h<;>first|exact h.elim|skip
 rename_i m a;rw[a];dsimp only;split at h<;>first|exact h.elim|skip
 . rename_i _ n s b
   rw[b];dsimp only;exact h.c
 . rename_i j e _ n k b
   rw[b];dsimp only;split at h<;>first|exact h.elim|skip
   rename_i o d;rw[d];dsimp only;obtain⟨i,g⟩:=h;show cond _ _ _;rw[i];exact g.c
def Dn (E:Env)(H:ai)(K:KR)(l:List Nat)(t:TypeId)(x:AV)(lo hi mx:Option AV):Prop:=
 match E.ti t with
 | some h => match h.desc, x with
   | .string, .str s => match mx, du 0 lo, du s.length hi with
     | none,some a,some b=>Rq (jy a b s.length) (K (.str ((s.drop a.toNat).take (b.toNat - a.toNat))) [] l)
     | _,_,_=>False
   | .slice e, .az k i c d => match E.ti e with
     | some g => cond (d == g.size) (match du 0 lo, du c hi with
       | some a, some b => match mx with
         | none=>Rq (jy a b c) (K (.az k (i+a.toNat) (b.toNat - a.toNat) d) [] l)
         | _=>(nP E t x lo hi mx).cI H K l
       | _,_=>False) False
     | none=>False
   | .slice e, .ak d f => match E.ti e with
     | some g => cond (d == g.size) (match du 0 lo, du f.length hi with
       | some a, some b => match mx with
         | none=>Rq (jy a b f.length) (K (.ak d ((f.drop a.toNat).take (b.toNat - a.toNat))) [] l)
         | _=>(nP E t x lo hi mx).cI H K l
       | _,_=>False) False
     | none=>False
   | _,_=>(nP E t x lo hi mx).cI H K l
 | none=>False
theorem Yu {E:Env}{H:ai}{K:KR}{l:List Nat}{t:TypeId}{x:AV}{lo hi mx:Option AV}(h:Dn E H K l t x lo hi mx):(nP E t x lo hi mx).cI H K l:=by
 unfold Dn at h;split at h<;>first|exact h.elim|skip
 rename_i u f;split at h
 . rename_i s j
   split at h<;>first|exact h.elim|skip
   rename_i a b m n;unfold nP cf;rw[f];dsimp only;rw[j];dsimp only;rw[m,n];exact h.c
 . rename_i e k i q g j
   split at h<;>first|exact h.elim|skip
   rename_i o d;cases p:g == o.size with
   | false=>grind
   | true =>
     rw[p] at h;simp only[cond_true] at h;split at h<;>first|exact h.elim|skip
     rename_i a b m n;split at h<;>first|exact h|skip
     unfold nP cf;rw[f];dsimp only;rw[j];dsimp only;rw[d];dsimp only;show cond (g == o.size) _ _;rw[p,m,n];exact h.c
 . rename_i e g r j
   split at h<;>first|exact h.elim|skip
   rename_i o d;cases p:g == o.size with
   | false=>grind
   | true =>
     rw[p] at h;simp only[cond_true] at h;split at h<;>first|exact h.elim|skip
     rename_i a b m n;split at h<;>first|exact h|skip
     unfold nP cf;rw[f];dsimp only;rw[j];dsimp only;rw[d];dsimp only;show cond (g == o.size) _ _;rw[p,m,n];exact h.c
 omega
def Cn (E:Env)(K:KR)(b:List Nat)(nm:Nat)(t:TypeId)(len cap:AV):Prop:=
 match E.ti t with
 | some d => match d.desc, len, cap with
   | .slice e, .int .i64 l, .int .i64 c => match E.ti e with
     | some a => Rq (decide (0 ≤ l) && decide (l ≤ c) && decide (c ≤ 9223372036854775807) && decide (a.bytes * c ≤ 140737488355328) && blt 0 a.size)
       (cond (ble (nm+2) 16777216) (K (.az nm 0 l.toNat a.size) [(nm,some (.arr a.size (replicate c.toNat a.zero)))] b) False)
     | none=>False
   | _,_,_=>False
 | none=>False
theorem Vt {E:Env}{H:ai}{K:KR}{d:List Nat}{nm:Nat}{t:TypeId}{len cap:AV}(h:Cn E K d nm t len cap):(yH E nm t len cap).cI H K d:=by
 unfold Cn at h;unfold yH cf;split at h<;>first|exact h.elim|skip
 rename_i g b;rw[b];dsimp only;split at h<;>first|exact h.elim|skip
 rename_i e l c f;rw[f];dsimp only;split at h<;>first|exact h.elim|skip
 rename_i i a;rw[a];dsimp only;exact h.c
def vL (H:ai)(K:KR)(d:List Nat)(nm:Nat)(c:TI)(s:AV)(a:List (List AV)):Prop:=
 Br (beq a.length 0) (match qn s with|some _=>K s [] d|none=>False)
  (Rq (a.all fun e => e.all AV.one) (match s with
    | .ah | .cW=>Rq (ble (a.length * (c.bytes+1)) 140737488355328) (cond (ble (nm+2) 16777216) (K (.az nm 0 a.length c.size) [(nm,some (.arr c.size a))] d) False)
    | .az k i b h => match H.get k with
      | some (.arr f g) => cond (h == c.size && f == c.size && ble (k + 2) 16777216 && ble (nm + 2) 16777216)
        (Rq (ble (i+b) g.length && ble ((b+a.length) * (c.bytes+1)) 140737488355328) (K (.az nm 0 (b+a.length) c.size) [(k,none),(nm,some (.arr c.size ((g.drop i).take b++a)))] (k::d))) False
      | _=>False
    | _=>False))
def vM (nm:Nat)(c:TI)(s:AV)(a:List (List AV)):Rd:=
 .br (beq a.length 0) (match qn s with|some _ => .ret ⟨s,[]⟩|none => .fail)
  (.bZ (a.all fun e => e.all AV.one) (match s with
    | .ah | .cW => .bZ (ble (a.length * (c.bytes+1)) 140737488355328) (iJ (.az nm 0 a.length c.size) nm (.arr c.size a))
    | .az k i b g => .rd k <| ke fun d f => .bZ (g == c.size && d == c.size && ble (i+b) f.length && ble ((b+a.length) * (c.bytes+1)) 140737488355328 && ble (k+2) 16777216 && ble (nm+2) 16777216) (.ret ⟨.az nm 0 (b+a.length) c.size,[(k,none),(nm,some (.arr c.size ((f.drop i).take b++a)))]⟩)
    | _ => .fail))
theorem NX {E:Env}{nm:Nat}{e:TypeId}{a:TI}{s x:AV}(h:E.ti e=some a):yA E nm e s x = .bZ (blt 0 a.size) (rJ a.size x (vM nm a s)):=by
 unfold yA cf;rw[h];rfl
theorem EI {H:ai}{K:KR}{j:List Nat}{nm:Nat}{b:TI}{s:AV}{a:List (List AV)}(h:vL H K j nm b s a):(vM nm b s a).cI H K j:=by
 unfold vM;unfold vL at h;cases h with
 | t h x =>
   simp only[Rd.cI,h,cond_true];cases w:qn s with
   | none=>grind
   | some n=>rw[w] at x;exact x
 | f h x =>
   obtain⟨u,x⟩:=x;simp only[Rd.cI,h,cond_false,u,cond_true];cases s<;>dsimp only at x ⊢<;>first|exact x.c|skip
   rename_i k i d g;simp only[Rd.cI];cases l:H.get k with
   | none=>grind
   | some o =>
     rw[l] at x;cases o with
     | dG _ _=>grind
     | lp _ _ _ _ _=>grind
     | mp _=>grind
     | cm _ _=>grind
     | arr e y=>
     dsimp only at x;rw[ux l];simp only[ke];cases m:g == b.size && e == b.size && ble (k+2) 16777216 && ble (nm+2) 16777216 with
     | false=>grind
     | true =>
       rw[m] at x;simp only[cond_true] at x;obtain⟨p,x⟩:=x;simp only[Bool.and_eq_true] at m p;show cond _ _ _;rw[show(g == b.size && e == b.size && ble (i+d) y.length && ble ((d+a.length) * (b.bytes+1)) 140737488355328 && ble (k+2) 16777216 && ble (nm+2) 16777216)=true by
        grind]
       exact x
def z7 (E:Env)(K:KR)(l:List Nat)(nm:Nat)(e:TypeId)(n:Int):Prop:=
 match E.ti e with
 | some a => cond (blt 0 a.size && a.zero.all AV.one) (Rq (blt 0 n.toNat && ble (n.toNat * (a.bytes+1)) 140737488355328)
  (cond (ble (nm+2) 16777216) (K (.az nm 0 n.toNat a.size) [(nm,some (.arr a.size (replicate n.toNat a.zero)))] l) False)) False
 | none=>False
theorem N1 {E:Env}{H:ai}{K:KR}{l:List Nat}{nm:Nat}{e:TypeId}{n:Int}(h:z7 E K l nm e n):(yz E nm e .ah (.int .i64 n)).cI H K l:=by
 unfold z7 at h;unfold yz cf;split at h<;>first|exact h.elim|skip
 rename_i b a;rw[a];dsimp only;cases c:blt 0 b.size && b.zero.all AV.one with
 | false=>grind
 | true =>
   rw[c] at h;obtain⟨d,f⟩:=h;rw[d]
   assumption
def zZ (E:Env)(H:ai)(K:KR)(b:List Nat)(nm:Nat)(t j:TypeId)(s x:AV):Prop:=
 match E.ti t,E.ti j with
 | some l, some g => match l.desc, g.desc, x with
   | .slice e, .int _, .int .i64 n => match s with
     | .ah=>z7 E K b nm e n
     | _=>False
   | .slice e, .slice _, .ah => match E.ti e with
     | some a=>cond (blt 0 a.size) (match qn s with|some _=>K s [] b|none=>False) False
     | none=>False
   | .slice e, .slice _, .ak h d => match E.ti e with
     | some a=>cond (blt 0 a.size && h == a.size) (vL H K b nm a s d) False
     | none=>False
   | .slice e, .slice _, .az k i c h => match E.ti e with
     | some a => match H.get k with
       | some (.arr f d)=>cond (blt 0 a.size && h == a.size && f == a.size) (Rq (ble (i+c) d.length) (vL H K (k::b) nm a s ((d.drop i).take c))) False
       | _=>False
     | none=>False
   | _,_,_=>(qK E nm t j s x).cI H K b
 | _,_=>False
theorem NW {E:Env}{H:ai}{K:KR}{o:List Nat}{nm:Nat}{t u:TypeId}{s x:AV}(h:zZ E H K o nm t u s x):(qK E nm t u s x).cI H K o:=by
 unfold zZ at h;split at h<;>first|exact h.elim|skip
 rename_i B q m j;have l:∀e g b,B.desc = .slice e->q.desc = .slice g->E.ti e=some b->(Rd.bZ (blt 0 b.size) (rJ b.size x (vM nm b s))).cI H K o->(qK E nm t u s x).cI H K o:=by
  intro e g b f a c v;unfold qK cf;rw[m,j];dsimp only;rw[f,a];dsimp only;rw[NX c];exact v
 split at h
 . rename_i e k n f a
   split at h<;>first|exact h.elim|skip
   unfold qK cf;rw[m,j];dsimp only;rw[f,a];exact N1 h
 . rename_i e g f a
   split at h<;>first|exact h.elim|skip
   rename_i b c;refine l e g b f a c ?_;show cond _ _ _;cases d:blt 0 b.size with
   | false=>grind
   | true =>
     rw[d] at h;simp only[cond_true] at h ⊢;show cond true _ _;simp only[cond_true];cases w:qn s with
     | none=>grind
     | some n=>rw[w] at h;exact h
 . rename_i e g p z f a
   split at h<;>first|exact h.elim|skip
   rename_i b c;refine l e g b f a c ?_;show cond _ _ _;cases d:blt 0 b.size && p == b.size with
   | false=>grind
   | true =>
     rw[d] at h;simp only[Bool.and_eq_true] at d;rw[d.1];simp only[cond_true] at h ⊢;show cond (p == b.size) _ _;rw[d.2];exact EI h
 . rename_i e g k i A p f a
   split at h<;>first|exact h.elim|skip
   rename_i b c;refine l e g b f a c ?_;show cond _ _ _;split at h<;>first|exact h.elim|skip
   rename_i r z C;cases d:blt 0 b.size && p == b.size && r == b.size with
   | false=>grind
   | true =>
     rw[d] at h;simp only[cond_true] at h;obtain⟨y,h⟩:=h;simp only[Bool.and_eq_true] at d;rw[d.1.1];simp only[cond_true,rJ,Rd.cI,ux C,ke];rw[d.1.2,d.2,y];exact EI h
 omega
def Cr (H:ai)(K:KR)(l:List Nat)(x:AV)(b:Bool):Prop:=
 match x,b with
 | .ptr k 0 0, true => match H.get k with
   | some (.dG s a)=>cond (ble (k+2) 16777216) (Br (blt a s.length) (K (.ao [.bool true,.int .i64 a,.int .i32 (jI s a)]) [(k,some (.dG s (a+hU s a)))] (k::l)) (K (.ao [.bool false]) [] (k::l))) False
   | _=>False
 | _,_=>False
theorem VG {H:ai}{K:KR}{l:List Nat}{x:AV}{a:Bool}(h:Cr H K l x a):(vc x a).cI H K l:=by
 unfold Cr at h;unfold vc;split at h<;>first|exact h.elim|skip
 rename_i k;simp only[Rd.cI];cases b:H.get k with
 | none=>grind
 | some o =>
   rw[b] at h;cases o with
   | arr _ _=>grind
   | mp _=>grind
   | cm _ _=>grind
   | lp _ _ _ _ _=>grind
   | dG s j =>
     rw[ux b];dsimp only at h ⊢;cases i:ble (k+2) 16777216 with
     | false=>grind
     | true =>
       rw[i] at h;simp only[cond_true] at h;simp only[I7,Rd.cI,iJ];cases h with
       | t c x=>grind
       | f c x=>grind
def tZ (E:Env)(H:ai)(K:KR)(l:List Nat)(ts:TI)(x:AV):Prop:=
 match ts.desc with
 | .slice e => match E.ti e with
   | some h => match h.desc, x with
     | .int .u8,.ah=>K (.str []) [] l
     | .int .u8,.ak g c=>cond (g == 1) (ay (kC c) fun f=>fL AV.f0 f fun a=>(lF a).cI H K l) False
     | .int .u8, .az k i b g => match H.get k with
       | some (.arr d c)=>cond (g == 1 && d == 1) (Rq (ble (i+b) c.length) (ay (kC ((c.drop i).take b)) fun f=>fL AV.f0 f fun a=>(lF a).cI H K (k::l))) False
       | _=>False
     | _,_=>False
   | none=>False
 | _=>False
theorem Ae {E:Env}{H:ai}{K:KR}{l:List Nat}{ts:TI}{x:AV}(h:tZ E H K l ts x):(qL E ts x).cI H K l:=by
 unfold tZ at h;unfold qL;split at h<;>first|exact h.elim|skip
 rename_i e n;rw[n];dsimp only;unfold cf;split at h<;>first|exact h.elim|skip
 rename_i r d;rw[d];dsimp only;split at h<;>first|exact h.elim|skip
 . rename_i a;rw[a];exact h
 . rename_i b m a
   rw[a];dsimp only;show cond (b == 1) _ _;cases g:b == 1 with
   | false=>grind
   | true=>rw[g] at h;exact ay.c h
 . rename_i k i o b a
   rw[a];dsimp only;simp only[Rd.cI];split at h<;>first|exact h.elim|skip
   rename_i f m p;rw[ux p];simp only[ke,Rd.cI];cases g:b == 1 && f == 1 with
   | false=>grind
   | true =>
     rw[g] at h;simp only[cond_true] at h;obtain⟨q,j⟩:=h;rw[q];exact ay.c j
def AR (E:Env)(H:ai)(K:KR)(l:List Nat)(s d:TypeId)(x:AV):Prop:=
 match E.ti s,E.ti d with
 | some f, some i => match i.desc, x with
   | .int k,.int _ n=>K (.int k (wr k n)) [] l
   | .string,.str t=>K (.str t) [] l
   | .string,.int _ n=>K (.str (Utf8.encode n).data.toList) [] l
   | .string,.ah=>tZ E H K l f .ah
   | .string,.ak a b=>tZ E H K l f (.ak a b)
   | .string,.az a b c e=>tZ E H K l f (.az a b c e)
   | .slice e, .str t => match E.ti e with
     | some h => match h.desc with
       | .int .u8=>K (.ak 1 (t.map fun b=>[.int .u8 b.toNat])) [] l
       | _=>False
     | none=>False
   | .slice _,.az _ _ _ _=>(sR E s d x).cI H K l
   | _,_=>False
 | _,_=>False
theorem Qs {E:Env}{H:ai}{K:KR}{l:List Nat}{s d:TypeId}{x:AV}(h:AR E H K l s d x):(sR E s d x).cI H K l:=by
 unfold AR at h;unfold sR cf;split at h<;>first|exact h.elim|skip
 rename_i q o i g;rw[i,g];dsimp only;split at h<;>first|exact h.elim|skip
 . rename_i k _ n f;rw[f];exact h
 . rename_i t f;rw[f];exact h
 . rename_i k n f;rw[f];exact h
 . rename_i f;rw[f];exact Ae h
 . rename_i a b f;rw[f];exact Ae h
 . rename_i a b c e f;rw[f];exact Ae h
 . rename_i e t f
   rw[f];dsimp only;split at h<;>first|exact h.elim|skip
   rename_i p j;rw[j];dsimp only;split at h<;>first|exact h.elim|skip
   rename_i m;rw[m];exact h
 . unfold sR cf at h
   grind
def AK (E:Env)(H:ai)(K:KR)(l:List Nat)(t:TypeId)(x:AV):Prop:=
 match E.ti t with
 | some f => match f.desc, x with
   | .slice e, .az k i a g => match E.ti e with
     | some b => match H.get k with
       | some (.arr d c) => cond (blt 0 b.size && b.zero.all AV.one && g == b.size && d == b.size) (Rq (ble (i+a) c.length)
        (cond (ble (k+2) 16777216) (K (.ao []) [(k,some (.arr b.size (c.take i++replicate a b.zero++c.drop (i+a))))] (k::l)) False)) False
       | _=>False
     | none=>False
   | _,_=>False
 | none=>False
theorem P1 {E:Env}{H:ai}{K:KR}{l:List Nat}{t:TypeId}{x:AV}(h:AK E H K l t x):(yC E t x).cI H K l:=by
 unfold AK at h;unfold yC cf;split at h<;>first|exact h.elim|skip
 rename_i r c;rw[c];dsimp only;split at h<;>first|exact h.elim|skip
 rename_i e k i m f g;rw[g];dsimp only;split at h<;>first|exact h.elim|skip
 rename_i a b;rw[b];dsimp only;simp only[Rd.cI];split at h<;>first|exact h.elim|skip
 rename_i d q j;rw[ux j];simp only[ke,Rd.cI];cases n:blt 0 a.size && a.zero.all AV.one && f == a.size && d == a.size with
 | false=>grind
 | true =>
   rw[n] at h;simp only[cond_true] at h ⊢;obtain⟨o,p⟩:=h;rw[o]
   assumption
def va (j:Bool)(E:Env)(nm:Nat)(ρ:Operand->AV)(H:ai)(K:KR)(l:List Nat)(b:Op):Prop:=
 match b with
 | .binOp b t x y _=>Am j E H K l b t (iE x || iE y) (ρ x) (ρ y)
 | .indexAddr t x i=>B7 E K l t (ρ x) (ρ i)
 | .index t x i=>B6 E H K l t (ρ x) (ρ i)
 | .slice t x k m h=>Dn E H K l t (ρ x) (k.map ρ) (m.map ρ) (h.map ρ)
 | .makeSlice t n c=>Cn E K l nm t (ρ n) (ρ c)
 | .next x f=>Cr H K l (ρ x) f
 | .convert s d x=>AR E H K l s d (ρ x)
 | .call { callee := .builtin .append, args, argTypes } => match argTypes.toList, args.toList.map ρ with
   | [t,g],[s,x]=>zZ E H K l nm t g s x
   | _,_=>False
 | .call { callee := .builtin .clear, args, argTypes } => match argTypes.toList, args.toList.map ρ with
   | [t],[x]=>AK E H K l t x
   | _,_=>False
 | b=>(cc E nm ρ b).cI H K l
theorem Kv {d:Bool}{E:Env}{nm:Nat}{ρ:Operand->AV}{H:ai}{K:KR}{l:List Nat}{c:Op}(h:va d E nm ρ H K l c):(cc E nm ρ c).cI H K l:=by
 unfold va at h;split at h
 . exact Oq h
 . exact Tz h
 . exact Tx h
 . exact Yu h
 . exact Vt h
 . exact VG h
 . exact Qs h
 . simp only [cc]
   split at h<;>first|exact h.elim|skip
   rename_i a b;simp only[yB];rw[a,b];exact NW h
 . simp only [cc]
   split at h<;>first|exact h.elim|skip
   rename_i a b;simp only[yB];rw[a,b];exact P1 h
 omega
theorem Rd.rY {H:ai}{K:bk->Prop}{Kp:AV->Prop}:∀{r:Rd} {l:List Nat},r.gP H (fun e _=>K e) l->r.holds H K Kp
 | .ret e,_,h=>h
 | .aR v,_,h=>h.elim
 | .rd k f, l, h => by
   simp[gP] at h;simp[holds];cases e:H.get k with
   | none=>grind
   | some o=>rw[e] at h;exact rY h
 | .bZ b r,l,h=>⟨h.1,rY h.2⟩
 | .br b r s,l,h=>⟨fun e=>rY (h.1 e),fun e=>rY (h.2 e)⟩
 | .opt o f, l, h => by
   obtain⟨x,g,h⟩:=h;exact⟨x,g,rY h⟩
 | .fail,_,h=>h.elim
theorem X2 {c:Bool}{E:Env}{nm:Nat}{ρ:Operand->AV}{H:ai}{K:AV->List (Nat×Option an)->Prop}{Kp:AV->Prop}{a:Op}(h:va c E nm ρ H (fun v b _=>K v b) [] a) :
 (cc E nm ρ a).holds H (fun e=>K e.val e.up) Kp:=Rd.rY (Rd.oA (Kv h))
section
variable (P:Program) (E:Env)
def call3 (nx:Nat)(f:AV)(args:List AV)(S:St)(e:Option Tmp)(c:Nat->St->Prop)(K:AX->Nat->St->Prop):Prop:=
 match f with
 | .fn (.func g) d l => fL AV.f1 (d ++ args ++ l) fun a => DC P E g a S.heap nx fun j h b => match j with
   | .ret v=>match S with|⟨i,n,_,_⟩=>kg i n e v h (c b)
   | .aR v=>K (.aR v) b (S.put none .any h 0)
 | .fT k => fL AV.f1 args fun a => DY P E k a S.heap nx fun j h b => match j with
   | .ret v=>match S with|⟨i,n,_,_⟩=>kg i n e v h (c b)
   | .aR v=>K (.aR v) b (S.put none .any h 0)
 | _=>False
def xI (nm nx:Nat)(o:Oper)(S:St)(a:Nat->St->Prop)(K:AX->Nat->St->Prop):Prop:=
 match S with
 | ⟨b, n, H, x⟩ => cond (cv ⟨b, n, H, x⟩ o.dst) (match o.op with
   | .call { callee := .value f,args,.. }=>call3 P E nx (St.ev E ⟨b,n,H,x⟩ f) (args.toList.map (St.ev E ⟨b,n,H,x⟩)) ⟨b,n,H,x⟩ o.dst a K
   | .panic y=>(cc E nm (St.ev E ⟨b,n,H,x⟩) (.panic y)).h3 H (fun v c=>s9 H (fun d=>kg b n o.dst v d (a nx)) c) (fun v=>v.f1 fun h=>K (.aR h) nx ⟨b,n,H,x⟩)
   | g=>va false E nm (St.ev E ⟨b,n,H,x⟩) H (fun v c _=>s9 H (fun d=>kg b n o.dst v d (a nx)) c) [] g) False
def oz (ops:List Oper)(S:St)(g:Option (Nat×Bool))(p q:Prop):Prop:=
 match g with
 | none=>p
 | some (j, a) => match gO ops S j a with
   | some b=>cond b p q
   | none=>False
def pT (ops:List Oper)(b:Nat)(K:AX->Nat->St->Prop):List Oper->Nat->Nat->St->Prop
 | [],_,d,S=>K .normal d S
 | o::c,i,d,S=>oz ops S o.guard (xI P E (b+i) d o S (pT ops b K c (i+1)) K)
  (match S with|⟨e,n,H,x⟩=>cond (cv ⟨e,n,H,x⟩ o.dst) (kg e n o.dst (.ao []) H (pT ops b K c (i+1) d)) False)
def DV (nm:Nat)(f:AV)(args:List AV)(H:ai)(R:AV->List (Nat×Option an)->List Nat->Prop):Prop:=
 (∃v a,mK P E f args H v a∧R v [] a)∨(∃v b,zH P E nm f args v b∧R v b [])∨∃v a b,zI P E f args H v a b∧R v b a
def gK (a:List Nat)(i:Nat)(rds:List Nat)(c:List (Nat×Option an))(acc b:List (Nat×List Nat×List Nat)):Bool:=
 match c with
 | []=>b.all fun (j,_,k)=>j_ k rds || comp a i j
 | c=>(c.all fun p=>ble (p.1+2) 16777216) && acc.all fun (j,r,k)=>(j_ (c.map (·.1)) r && j_ (c.map (·.1)) k && j_ k rds) || comp a i j
def ue (b:List Nat)(i:Nat)(rds:List Nat)(c:List (Nat×Option an))(acc a:List (Nat×List Nat×List Nat))(X:Prop):Prop:=
 match c,a with
 | [],[]=>X
 | c,a=>Rq (gK b i rds c acc a) X
def CF (d:Bool)(nm:Nat)(o:Oper)(S:St)(a:AV->List (Nat×Option an)->List Nat->Prop):Prop:=
 match S with
 | ⟨c, n, H, x⟩ => cond (cv ⟨c, n, H, x⟩ o.dst) (match o.op with
   | .call { callee := .value f,args,.. }=>(St.ev E ⟨c,n,H,x⟩ f).f1 fun j=>fL AV.f1 (args.toList.map (St.ev E ⟨c,n,H,x⟩)) fun b=>DV P E nm j b H fun v g e=>v.uj d fun h=>a h g e
   | k=>va d E nm (St.ev E ⟨c,n,H,x⟩) H (fun v g l=>v.uj d fun h=>a h g l) [] k) False
def lq (S:St)(a:Option Tmp)(v:AV)(e:List (Nat×Option an))(k:St->Prop):Prop:=
 match S with
 | ⟨c, n, H, _⟩ => s9 H (fun b => match a with
   | none=>k ⟨c,n,b,0⟩
   | some d=>k ⟨.put d (some v) c,n,b,0⟩) e
def j8 (j:Bool)(ops:List Oper)(b:Nat)(a:List Nat)(K:St->Prop):List Oper->Nat->St->List (Nat×List Nat×List Nat)->List (Nat×List Nat×List Nat)->Prop
 | [],_,S,_,_=>K S
 | o::d,i,S,e,c=>oz ops S o.guard
  (CF P E j (b + i) o S fun v h f => ue a i f h e c (lq S o.dst v h fun k=>match h with
    | []=>j8 j ops b a K d (i+1) k ((i,f,[])::e) c
    | h=>j8 j ops b a K d (i+1) k ((i,f,h.map (·.1))::e) ((i,f,h.map (·.1))::c)))
  (cond (cv S o.dst) (lq S o.dst (.ao []) [] fun k=>j8 j ops b a K d (i+1) k ((i,[],[])::e) c) False)
def iV (ops:List Oper):Bool:=om ops 0 && (let m:=js ops [];yQ ⟨ops⟩ m)
inductive kY (A B:Prop):Prop where
 | e (a:A)
 | l (b:B)
variable (rr:Bool)
def fI:Code->(AX->Nat->St->Prop)->Nat->St->Prop
 | .skip,K,d,S=>K .normal d S
 | .label _,K,d,S=>K .normal d S
 | .exit i,K,d,S=>K (.exit i) d S
 | .goto l,K,d,S=>K (.goto l) d S
 | .ret,K,d,S=>K .ret d S
 | .region _ c false,K,d,S=>pT P E c.toList d K c.toList 0 (d+c.size) S
 | .region _ c true,K,d,S=>iV c.toList=true∧kY (j8 P E false c.toList d (js c.toList []) (K .normal (d+c.size)) c.toList 0 S [] []) (j8 P E true c.toList d (js c.toList []) (K .normal (d+c.size)) c.toList 0 S [] [])
 | .seq a b,K,d,S=>fI a (fun e g h=>match e with | .normal=>fI b K g h|e=>K e g h) d S
 | .cond x t e, K, d, S => match S.ev E x with
   | .bool b=>cond b (fI t K d S) (fI e K d S)
   | _=>False
 | .block id k, K, d, S => fI k (fun e g h => match e with
   | .exit j=>cond (beq j id) (K .normal g h) (K (.exit j) g h)
   | e=>K e g h) d S
 | m,K,d,S=>DW P E rr d m K S
end
section
variable {P:Program} {E:Env} {rr:Bool}
theorem Wg {nm nx:Nat}{o:Oper}{S:St}{a:Nat->St->Prop}{K:AX->Nat->St->Prop}(h:xI P E nm nx o S a K):pV P E nm nx o S a K:=by
 obtain⟨b,n,H,x⟩:=S;simp only[xI] at h;cases A:cv ⟨b,n,H,x⟩ o.dst with
 | false=>grind
 | true =>
   rw[A] at h;refine⟨A,?_⟩;simp only[cond_true] at h;split at h
   . rename_i f z D d
     rw[d];show pU P E nx _ _ _ _ _ _;unfold call3 at h;unfold pU;split at h
     . rename_i g t B i
       rw[i];have:=gj (fun _ _ h=>AV.gi h) h
       refine DC.mono this fun s m p l=>?_
       cases s with
       | ret v=>exact oR l
       | aR v=>exact l
     . rename_i k i
       rw[i];have:=gj (fun _ _ h=>AV.gi h) h
       refine DY.mono this fun s m p l=>?_
       cases s with
       | ret v=>exact oR l
       | aR v=>exact l
     grind
   . rename_i y d
     have:(cc E nm (St.ev E ⟨b,n,H,x⟩) (.panic y)).holds H (fun c=>a nx ((⟨b,n,H,x⟩:St).put o.dst c.val (bk.dH H c.up) 0)) (fun v=>K (.aR v) nx ⟨b,n,H,x⟩):=
      Rd.kc (fun e u=>oR (vm (k:=fun m=>kg b n o.dst e.val m (a nx)) u)) (fun v w=>AV.gi (k:=fun C=>K (.aR C) nx ⟨b,n,H,x⟩) w) (Rd.qd h)
     grind
   . rename_i d _
     have:(cc E nm (St.ev E ⟨b,n,H,x⟩) o.op).holds H (fun c=>a nx ((⟨b,n,H,x⟩:St).put o.dst c.val (bk.dH H c.up) 0)) (fun v=>K (.aR v) nx ⟨b,n,H,x⟩):=
      Rd.kc (fun e u=>oR (vm (k:=fun m=>kg b n o.dst e.val m (a nx)) u)) (fun v w=>w) (X2 (Kp:=fun v=>K (.aR v) nx ⟨b,n,H,x⟩) h)
     grind
theorem uf {ops:List Oper}{c:Nat}{K:AX->Nat->St->Prop}:∀(a:List Oper) {i nx:Nat} {S:St},pT P E ops c K a i nx S->jt P E ops c K a i nx S
 | [],i,nx,S,h=>h
 | o :: a, i, nx, S, h => by
   have r:xI P E (c+i) nx o S (pT P E ops c K a (i+1)) K->pV P E (c+i) nx o S (jt P E ops c K a (i+1)) K:=by
    intro h;obtain⟨j,h⟩:=Wg h;refine⟨j,?_⟩;split at h
    . unfold pU at h ⊢
      split at h
      . refine DC.mono h fun g p k d => ?_
        cases g with
        | ret v=>exact uf a d
        | aR v=>exact d
      . refine DY.mono h fun g p k d => ?_
        cases g with
        | ret v=>exact uf a d
        | aR v=>exact d
      omega
    . exact Rd.kc (fun e q=>uf a q) (fun _ h=>h) h
   have s:(match S with|⟨f,n,H,x⟩=>cond (cv ⟨f,n,H,x⟩ o.dst) (kg f n o.dst (.ao []) H (pT P E ops c K a (i+1) nx)) False)->(cv S o.dst=true∧jt P E ops c K a (i+1) nx (S.put o.dst (.ao []) S.heap 0)):=by
    obtain⟨f,n,H,x⟩:=S;intro h;dsimp only at h;cases j:cv ⟨f,n,H,x⟩ o.dst with
    | false=>grind
    | true =>
      rw[j] at h;exact⟨rfl,uf a (oR h)⟩
   simp only[pT,oz] at h;simp only[jt,gate]
   grind
theorem wm {c:List Nat}{i:Nat}{rds:List Nat}{f:List (Nat×Option an)}{acc d:List (Nat×List Nat×List Nat)}(m:∀p∈acc,p.2.2≠[]->p∈d)(v:AV)(h:gK c i rds f acc d=true):jF c i ⟨v,f,rds⟩ acc=true:=by
 cases f with
 | nil =>
   simp only[gK,all_eq_true] at h;simp only[jF,DE.keys,all_nil,Bool.true_and,map_nil,all_eq_true]
   rintro⟨j,r,k⟩ l
   cases k with
   | nil=>simp[j_]
   | cons a k =>
     have:=h _ (m _ l ag);simp only[Bool.or_eq_true] at this ⊢;rcases this with h|h
     . exact .inr bA
     grind
 | cons a f =>
   simp only[gK,Bool.and_eq_true,all_eq_true] at h;simp only[jF,Bool.and_eq_true,all_eq_true];refine⟨h.1,?_⟩
   rintro⟨j,r,k⟩ l
   have:=h.2 _ l;simp only[Bool.or_eq_true] at this ⊢;exact this.symm
theorem PX {a:List Nat}{i:Nat}{rds:List Nat}{d:List (Nat×Option an)}{acc b:List (Nat×List Nat×List Nat)}{X:Prop}(h:ue a i rds d acc b X):cond (gK a i rds d acc b) X False:=by
 unfold ue at h;split at h
 . exact h
 exact h.c
theorem vK {S:St}{o:Oper}{v:AV}{b:List (Nat×Option an)}{rds:List Nat}{k:St->Prop}{n:Nat}(h:lq S o.dst v b k):∃S',k S'∧(S.at_ n).app o ⟨v,b,rds⟩=S'.at_ n:=by
 have:=vm h;unfold St.app St.put;cases c:o.dst with
 | none=>rw[c] at this;exact⟨_,this,rfl⟩
 | some d=>rw[c] at this;exact⟨_,this,rfl⟩
theorem vS {D:Bool}{ops:List Oper}{k:Nat}{c:List Nat}{K:St->Prop}{n:Nat}:∀(g:List Oper) {i:Nat} {S:St} {acc r:List (Nat×List Nat×List Nat)},(∀p∈acc,p.2.2≠[]->p∈r)->
 j8 P E D ops k c K g i S acc r->∃S',K S'∧fR P E ops k c (fun s=>s=S'.at_ n) g i (S.at_ n) acc
 | [],i,S,acc,r,_,h=>⟨S,h,rfl⟩
 | o :: g, i, S, acc, r, U, h => by
   have R : (CF P E D (k + i) o S fun v t q => ue c i q t acc r (lq S o.dst v t fun S'=>match t with
    | []=>j8 P E D ops k c K g (i+1) S' ((i,q,[])::acc) r
    | t=>j8 P E D ops k c K g (i+1) S' ((i,q,t.map (·.1))::acc) ((i,q,t.map (·.1))::r)))->
    ∃S',K S'∧mY P E (k+i) o (S.at_ n) fun d=>jF c i d acc=true∧fR P E ops k c (fun s=>s=S'.at_ n) g (i+1) ((S.at_ n).app o d) ((i,d.rds,d.keys)::acc):=by
    intro h;have N : ∀ v t q, (ue c i q t acc r (lq S o.dst v t fun S'=>match t with
     | []=>j8 P E D ops k c K g (i+1) S' ((i,q,[])::acc) r
     | t=>j8 P E D ops k c K g (i+1) S' ((i,q,t.map (·.1))::acc) ((i,q,t.map (·.1))::r)))->
     ∃S',K S'∧jF c i ⟨v,t,q⟩ acc=true∧fR P E ops k c (fun s=>s=S'.at_ n) g (i+1) ((S.at_ n).app o ⟨v,t,q⟩) ((i,q,t.map (·.1))::acc):=by
     intro v t q h
     replace h:=PX h
     cases O:gK c i q t acc r with
     | false=>grind
     | true =>
       rw[O] at h;simp only[cond_true] at h;obtain⟨Y,C,L⟩:=vK (n:=n) (rds:=q) h;rw[L];cases t with
       | nil =>
         dsimp only at C;obtain ⟨S', w, y⟩ := vS g (fun p R I=>by
          grind) C
         exact⟨S',w,wm U v O,y⟩
       | cons a t =>
         dsimp only at C;obtain ⟨S', w, y⟩ := vS g (fun p R I=>by
          grind) C
         exact⟨S',w,wm U v O,y⟩
    obtain⟨M,m,H,x⟩:=S;simp only[CF] at h;cases F:cv ⟨M,m,H,x⟩ o.dst with
    | false=>grind
    | true =>
      rw[F] at h;simp only[cond_true] at h;unfold mY;split at h
      . rename_i f V ts B
        have h:=gj (fun _ _ h=>AV.gi h) (AV.gi h)
        rcases h with⟨v,q,z,h⟩|⟨v,t,z,h⟩|⟨v,q,t,z,h⟩
        . obtain ⟨S', w, y, G⟩ := N v [] q (AV.ot h)
          refine⟨S',w,F,?_⟩;rw[B];exact .inl ⟨v,q,z,y,G⟩
        . obtain ⟨S', w, y, G⟩ := N v t [] (AV.ot h)
          refine⟨S',w,F,?_⟩;rw[B];exact .inr (.inl ⟨v,t,z,y,G⟩)
        . obtain ⟨S', w, y, G⟩ := N v t q (AV.ot h)
          refine⟨S',w,F,?_⟩;rw[B];exact .inr (.inr ⟨v,q,t,z,y,G⟩)
      . rename_i B
        obtain⟨e,l,C,L⟩:=Rd.qg (Rd.oA (Kv h));obtain⟨S',w,y,G⟩:=N e.val e.up l (AV.ot C);refine⟨S',w,F,?_⟩;have:(cc E (k+i) (St.ev E ((⟨M,m,H,x⟩:St).at_ n)) o.op).gP ((⟨M,m,H,x⟩:St).at_ n).heap (fun A l=>jF c i ⟨A.val,A.up,l⟩ acc=true∧fR P E ops k c (fun s=>s=S'.at_ n) g (i+1) (((⟨M,m,H,x⟩:St).at_ n).app o ⟨A.val,A.up,l⟩) ((i,l,A.up.map (·.1))::acc)) []:=
         Rd.oB (fun Z l' he=>by grind) L
        split
        . grind
        . exact this
   have hq:cond (cv S o.dst) (lq S o.dst (.ao []) [] fun S'=>j8 P E D ops k c K g (i+1) S' ((i,[],[])::acc) r) False->
    ∃S',K S'∧cv S o.dst=true∧fR P E ops k c (fun s=>s=S'.at_ n) g (i+1) ((S.at_ n).app o ⟨.ao [],[],[]⟩) ((i,[],[])::acc):=by
    intro h;cases F:cv S o.dst with
    | false=>grind
    | true =>
      rw[F] at h;simp only[cond_true] at h;obtain⟨Y,C,L⟩:=vK (n:=n) (rds:=[]) h;rw[L];obtain ⟨S', w, y⟩ := vS g (fun p R I=>by
       grind) C
      exact⟨S',w,rfl,y⟩
   have Q:∀j b,gO ops (S.at_ n) j b=gO ops S j b:=fun _ _=>rfl
   have J:cv (S.at_ n) o.dst=cv S o.dst:=rfl;simp only[j8,oz] at h;simp only[fR,gate,Q,J]
   grind
theorem F5 {ops:Array Oper}(h:iV ops.toList=true):om ops.toList 0=true∧yQ ops (js ops.toList [])=true:=by
 simp[iV] at h;exact h
theorem DW.draw (c:bW P E)(a:P.follows .mixedOrders=true){id:Nat}{ops:Array Oper}{nx:Nat}{K:AX->Nat->St->Prop}{S:St}(d:iV ops.toList=true)
 {e:Bool}(h:j8 P E e ops.toList nx (js ops.toList []) (K .normal (nx+ops.size)) ops.toList 0 S [] []):DW P E rr nx (.region id ops true) K S:=by
 obtain⟨g,f,i⟩:=vS _ (ag) h;obtain⟨j,b⟩:=F5 d;exact⟨.normal,nx+ops.size,g,SW.draw c a j b (tY (fun s b=>⟨rfl,b⟩) _ i),f⟩
theorem DW.gp (o:bW P E)(f:P.follows .mixedOrders=true):∀(code:Code) {K:AX->Nat->St->Prop} {nx:Nat} {S:St},fI P E rr code K nx S->DW P E rr nx code K S
 | .skip,K,nx,S,h=>DW.kP o (code := .skip) h
 | .label l,K,nx,S,h=>DW.kP o (code := .label l) h
 | .exit i,K,nx,S,h=>DW.kP o (code := .exit i) h
 | .goto l,K,nx,S,h=>DW.kP o (code := .goto l) h
 | .ret,K,nx,S,h=>DW.kP o (code := .ret) h
 | .region id A false,K,nx,S,h=>DW.kP o (code := .region id A false) (uf A.toList h)
 | .region _ A true, K, nx, S, h => by
   obtain⟨k,g⟩:=h;cases g with
   | e g=>exact DW.draw o f k g
   | l g=>exact DW.draw o f k g
 | .seq x y, K, nx, S, h => by
   obtain⟨z,d,n,k,g⟩:=DW.gp o f x h;cases z with
   | normal =>
     obtain⟨Q,R,T,I,F⟩:=DW.gp o f y g;refine⟨Q,R,T,SW.seq (k.mono fun e s p=>?_),F⟩
     grind
   | exit i=>exact⟨_,d,n,SW.seq (k.mono fun e s p=>by grind),g⟩
   | goto i=>exact⟨_,d,n,SW.seq (k.mono fun e s p=>by grind),g⟩
   | ret=>exact⟨_,d,n,SW.seq (k.mono fun e s p=>by grind),g⟩
   | aR v=>exact⟨_,d,n,SW.seq (k.mono fun e s p=>by grind),g⟩
 | .cond x t e, K, nx, S, h => by
   simp only[fI] at h;cases N:S.ev E x<;>rw[N] at h<;>first|exact h.elim|skip
   rename_i b;cases b with
   | true =>
     obtain⟨z,d,n,I,F⟩:=DW.gp o f t h;refine⟨z,d,n,fun r u m J c a w G=>?_,F⟩
     have B:=G.ev x;rw[show(S.at_ nx).ev E x = .bool true from N] at B
     generalize O:a.eval x=v at B
     cases B;exact wpIn_cond O (I r u m J c a w G)
   | false =>
     obtain⟨z,d,n,I,F⟩:=DW.gp o f e h;refine⟨z,d,n,fun r u m J c a w G=>?_,F⟩
     have B:=G.ev x;rw[show(S.at_ nx).ev E x = .bool false from N] at B
     generalize O:a.eval x=v at B
     cases B;exact wpIn_cond O (I r u m J c a w G)
 | .block id H, K, nx, S, h => by
   obtain⟨z,d,n,k,g⟩:=DW.gp o f H h;cases z with
   | exit j =>
     by_cases V:j=id
     . subst V
       dsimp only at g;rw[show beq j j=true by simp] at g
       exact⟨.normal,d,n,SW.block (k.mono fun e s p=>by grind),g⟩
     . dsimp only at g
       rw[show beq j id=false by
        cases e:beq j id with
        | false=>rfl
        | true=>simp_all] at g
       exact⟨.exit j,d,n,SW.block (k.mono fun e s p=>by grind),g⟩
   | normal=>exact⟨_,d,n,SW.block (k.mono fun e s p=>by grind),g⟩
   | goto i=>exact⟨_,d,n,SW.block (k.mono fun e s p=>by grind),g⟩
   | ret=>exact⟨_,d,n,SW.block (k.mono fun e s p=>by grind),g⟩
   | aR v=>exact⟨_,d,n,SW.block (k.mono fun e s p=>by grind),g⟩
 | .loop _,K,nx,S,h=>h
 | .rangeFunc ..,K,nx,S,h=>h
 | .scope _,K,nx,S,h=>h
 | .refuse _,K,nx,S,h=>h
def nk:List AV->Nat->Tr AV->(Tr AV->Prop)->Prop
 | [],_,t,k=>k t
 | x::l,i,t,k=>fN (i+1) fun b=>nk l b (.put i (some x) t) k
theorem sa:∀{l:List AV} {i:Nat} {t:Tr AV} {k:Tr AV->Prop},nk l i t k->k (qk l i t)
 | [],_,_,_,h=>h
 | _::l,_,_,_,h=>sa (l:=l) (rO h)
theorem uD {args:List AV}{n:Nat}(a:ble args.length n=true)(H:ai):St.init args n H 0=⟨qk args 0 .nil,n,H,0⟩:=by
 have:=le_of_ble_eq_true a;unfold St.init
 grind
theorem DP.gp {f:FuncId}{a:Func}{code:Code}{args:List AV}{Q:AE->Prop}(c:bW P E)(b:P.follows .mixedOrders=true)(k:P.funcs[f]? = some a)(i:a.body=some code)(g:a.name ≠ "runtime.NumGoroutine")
 (d:ble args.length a.ntmps=true)(j:blt a.ntmps 1000000=true)(h:fL AV.f1 args fun args'=>nk args' 0 .nil fun l=>fI P E false code (fun e _ S=>je E a Q e S) 0 ⟨l,a.ntmps,.nil,0⟩):DP P E f args Q:=by
 have n:=le_of_ble_eq_true d;have m:=by simpa using j
 refine DP.nD c k i g aa ?_;rw[uD d];exact DW.gp c b _ (sa (gj (fun _ _ h=>AV.gi h) h))
theorem DC.gp {f:FuncId}{a:Func}{code:Code}{args:List AV}{H:ai}{nx:Nat}{R:AE->ai->Nat->Prop}(c:bW P E)(b:P.follows .mixedOrders=true)(j:P.funcs[f]? = some a)(g:a.body=some code)(e:a.name ≠ "runtime.NumGoroutine")
 (d:ble args.length a.ntmps=true)(i:blt a.ntmps 1000000=true)(h:fL AV.f1 args fun args'=>nk args' 0 .nil fun k=>fI P E false code (qG E a R) nx ⟨k,a.ntmps,H,0⟩):DC P E f args H nx R:=by
 have m:=le_of_ble_eq_true d;have l:=by simpa using i
 refine DC.nD c j g e aa ?_;rw[uD d];exact DW.gp c b _ (sa (gj (fun _ _ h=>AV.gi h) h))
end
end Go.Ago
end
