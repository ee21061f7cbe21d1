/-
  Part A15: lemmas, each with its own conditions.
-/
import Derived.Test.YthaolifcglpkdaaGreatDoorA14
set_option maxRecDepth 100000
set_option maxHeartbeats 0
set_option linter.all false
namespace Go.Ago
open Go.Proofs List Nat Tryz
def xJ:List AV:=[.int .i8 0,.int .i8 0,.int .i8 0,.int .i8 0,.int .i8 0,.int .i8 1,.int .i8 0,.int .i8 1,.int .i8 1,.int .i8 0,.int .i8 1,.int .i8 0,.int .i8 2,.int .i8 0,.int .i8 2,.int .i8 0,.int .i8 2,.int .i8 0,.int .i8 2,.int .i8 0,.int .i8 2,.int .i8 0,.int .i8 1,.int .i8 0,.int .i8 2,.int .i8 0,.int .i8 2,.int .i8 0,.int .i8 2,.int .i8 0,.int .i8 2,.int .i8 0,.int .i8 2,.int .i8 0,.int .i8 1,.int .i8 0,.int .i8 2,.int .i8 0,.int .i8 3,.int .i8 0,.int .i8 2,.int .i8 0,.int .i8 1,.int .i8 0,.int .i8 2,.int .i8 0,.int .i8 3,.int .i8 0,.int .i8 2,.int .i8 0,.int .i8 (-1),.int .i8 0,.int .i8 0,.int .i8 0,.int .i8 0,.int .i8 0,.int .i8 0,.int .i8 0,.int .i8 0,.int .i8 0,.int .i8 1,.int .i8 1,.int .i8 1,.int .i8 1]
def Dj:List AV:=[.int .i8 0,.int .i8 0,.int .i8 0,.int .i8 0,.int .i8 0,.int .i8 0,.int .i8 0,.int .i8 0,.int .i8 0,.int .i8 0,.int .i8 1,.int .i8 1,.int .i8 1,.int .i8 1,.int .i8 0,.int .i8 0,.int .i8 0,.int .i8 0,.int .i8 0,.int .i8 1,.int .i8 0,.int .i8 0,.int .i8 1,.int .i8 1,.int .i8 1,.int .i8 0,.int .i8 0,.int .i8 0,.int .i8 0,.int .i8 3,.int .i8 0,.int .i8 0,.int .i8 0,.int .i8 8,.int .i8 1,.int .i8 0,.int .i8 0,.int .i8 0,.int .i8 1,.int .i8 0,.int .i8 0,.int .i8 0,.int .i8 0,.int .i8 0,.int .i8 7,.int .i8 0,.int .i8 0,.int .i8 0,.int .i8 0,.int .i8 6,.int .i8 0,.int .i8 0,.int .i8 0,.int .i8 0,.int .i8 6,.int .i8 1,.int .i8 2,.int .i8 0,.int .i8 0,.int .i8 1,.int .i8 0,.int .i8 1,.int .i8 1,.int .i8 1,.int .i8 0,.int .i8 0,.int .i8 0,.int .i8 0,.int .i8 0,.int .i8 1,.int .i8 0,.int .i8 0,.int .i8 0,.int .i8 0,.int .i8 1,.int .i8 0,.int .i8 0,.int .i8 0,.int .i8 16,.int .i8 26,.int .i8 1,.int .i8 16,.int .i8 0,.int .i8 0,.int .i8 10,.int .i8 1,.int .i8 1,.int .i8 0,.int .i8 1,.int .i8 2,.int .i8 1,.int .i8 1,.int .i8 1,.int .i8 1,.int .i8 2,.int .i8 1,.int .i8 1,.int .i8 1,.int .i8 1,.int .i8 2,.int .i8 0,.int .i8 0,.int .i8 1,.int .i8 1,.int .i8 2,.int .i8 2,.int .i8 2,.int .i8 0,.int .i8 0,.int .i8 0,.int .i8 0,.int .i8 0,.int .i8 0,.int .i8 0,.int .i8 0]
def uT:List AV:=[.int .u8 123,.int .u8 65,.int .u8 66,.int .u8 67,.int .u8 68,.int .u8 69,.int .u8 70,.int .u8 71,.int .u8 72,.int .u8 73,.int .u8 125,.int .u8 74,.int .u8 75,.int .u8 76,.int .u8 77,.int .u8 78,.int .u8 79,.int .u8 80,.int .u8 81,.int .u8 82]
def Sm:eZ:=fun g=>bif beq g 0 then some xJ else bif beq g 1 then some Dj else bif beq g 3 then some uT else none
def fx:Env:=⟨A9.get,Sm⟩
abbrev af (f:FuncId)(args:List AV)(Q:AE->Prop):Prop:=DP prog fx f args Q
theorem aD:prog.follows .mixedOrders=true:=by kernel_rfl
theorem aC:bW prog fx:=Q5 _
abbrev i64 (n:Int):AV := .int .i64 n
abbrev ca (p:Bool->Prop):AE->Prop:=fun ae=>∃b,ae = .ret (.bool b)∧p b
abbrev eX (p:Int->Prop):AE->Prop:=fun ae=>∃n,ae = .ret (.int .i64 n)∧p n
theorem mZ {a b:Int}:(aZ a b=true)=(a=b):=by simp[aZ]
theorem wJ {a b:Int}:(aZ a b=false)=¬(a=b):=by simp[aZ]
theorem Cg {a b:Int}:(bN a b=true)=(a<b):=by simp[bN]
theorem Cf {a b:Int}:(bN a b=false)=(b≤a):=by simp[bN]
theorem Cb {a b:Int}:(bM a b=true)=(a≤b):=by simp[bM]
theorem Ca {a b:Int}:(bM a b=false)=(b<a):=by simp[bM]
theorem hZ {n:Int}{l:Nat}:(bp n l=true)=(0≤n∧n<l):=by simp[bp]
theorem qO {a b n:Int}:(jy a b n=true)=(0≤a∧a≤b∧b≤n):=by simp[jy,and_assoc]
theorem bI {α:Type}{l:List α}{f:α->List AV}{i:Nat}(h:i<l.length):(l.map f)[((i:Int)).toNat]? = some (f l[i]):=by simp[h]
structure Ty where
 kind:Int
 p:Int
 q:Int
 fw:Bool
 ep:List UInt8
 hp:ep.length<281474976710656
abbrev Ty.cells (t:Ty):List AV:=[.int .i64 t.kind,.int .i64 t.p,.int .i64 t.q,.bool t.fw,.str t.ep]
abbrev Ty.av (t:Ty):AV := .agg t.cells
structure Vl where
 n:Int
 s:List UInt8
 hs:s.length<281474976710656
abbrev Vl.cells (v:Vl):List AV:=[.int .i64 v.n,.str v.s]
abbrev Vl.av (v:Vl):AV := .agg v.cells
abbrev iN (ts:List Ty):AV := .ak 5 (ts.map Ty.cells)
abbrev aU (l:List Int):AV := .ak 1 (l.map fun n=>[i64 n])
structure Fm where
 kind:Int
 w:Int
 d:Int
 ep:BL UInt8
abbrev Fm.cells (t:Fm):List AV:=[i64 t.kind,i64 t.w,i64 t.d,.str t.ep.l]
abbrev ma (l:List Fm):AV := .ak 4 (l.map Fm.cells)
structure Ins where
 op:Int
 d:Int
 a:Int
 b:Int
 t:Ty
 u:Ty
 w:Ty
 n:Int
 m:Int
 p:Int
 v:Vl
 f:BL Fm
 l:BL Int
 y:BL Ty
 size:Bool
 range:Bool
abbrev Ins.cells (i:Ins):List AV:=[i64 i.op,i64 i.d,i64 i.a,i64 i.b,i64 i.t.kind,i64 i.t.p,i64 i.t.q,.bool i.t.fw,.str i.t.ep,
 i64 i.u.kind,i64 i.u.p,i64 i.u.q,.bool i.u.fw,.str i.u.ep,i64 i.w.kind,i64 i.w.p,i64 i.w.q,.bool i.w.fw,.str i.w.ep,i64 i.n,i64 i.m,i64 i.p,i64 i.v.n,.str i.v.s,
 ma i.f.l,aU i.l.l,iN i.y.l,.bool i.size,.bool i.range]
abbrev Ins.av (i:Ins):AV := .agg i.cells
abbrev np (l:List Ins):AV := .ak 29 (l.map Ins.cells)
structure Bd where
 aj:Int
 ins:BL Ins
abbrev Bd.cells (b:Bd):List AV:=[i64 b.aj,np b.ins.l]
abbrev Bd.av (b:Bd):AV := .agg b.cells
abbrev vX (l:List Bd):AV := .ak 2 (l.map Bd.cells)
structure iS where
 at_:Int
 t:Ty
 v:Vl
abbrev iS.cells (i:iS):List AV:=[i64 i.at_,i64 i.t.kind,i64 i.t.p,i64 i.t.q,.bool i.t.fw,.str i.t.ep,i64 i.v.n,.str i.v.s]
abbrev nj (l:List iS):AV := .ak 8 (l.map iS.cells)
structure Fl where
 name:BL UInt8
 kind:Int
abbrev Fl.cells (f:Fl):List AV:=[.str f.name.l,i64 f.kind]
abbrev p_ (l:List Fl):AV := .ak 2 (l.map Fl.cells)
def rp (EP:List AV->Prop)(cs:List AV):Prop:=∃(e:List AV) (lo hi st:Int),cs=e++[i64 lo,i64 hi,i64 st]∧EP e
def j7 (EP:List AV->Prop)(cs:List AV):Prop:=∃(b u n o:Int) (p s:BL (List AV)) (t:Ty),
 cs=[i64 b,i64 u,i64 n,i64 o,.ak 11 p.l,.ak 14 s.l,i64 t.kind,i64 t.p,i64 t.q,.bool t.fw,.str t.ep]∧(∀x∈p.l,EP x)∧∀x∈s.l,rp EP x
def cP:Nat->List AV->Prop
 | 0,_=>False
 | d + 1, cs => ∃ (op : Int) (t : Ty) (v : Vl) (n : Int) (l r : BL (List AV)),
   cs=[i64 op,i64 t.kind,i64 t.p,i64 t.q,.bool t.fw,.str t.ep,i64 v.n,.str v.s,i64 n,.ak 11 l.l,.ak 11 r.l]∧(∀x∈l.l,cP d x)∧∀x∈r.l,j7 (cP d) x
def mS (d:Nat)(cs:List AV):Prop:=∃(kind no:Int) (r e:BL (List AV)) (n p c:Int) (f:BL Fm) (skip:Int) (size range:Bool),
 cs=[i64 kind,i64 no,.ak 11 r.l,.ak 11 e.l,i64 n,i64 p,i64 c,ma f.l,i64 skip,.bool size,.bool range]∧(∀x∈r.l,j7 (cP d) x)∧∀x∈e.l,cP d x
structure eC where
 name:BL UInt8
 parent:Int
 params:Int
 size:Int
 init:BL iS
 body:BL (List AV)
 lK:BL Ty
 dep:Nat
 hb:∀x∈body.l,mS dep x
abbrev eC.cells (p:eC):List AV:=[.str p.name.l,i64 p.parent,i64 p.params,i64 p.size,nj p.init.l,.ak 11 p.body.l,iN p.lK.l]
abbrev eC.av (p:eC):AV := .agg p.cells
abbrev mo (l:List eC):AV := .ak 7 (l.map eC.cells)
structure cR where
 procs:BL eC
 static:Int
 image:BL iS
 files:BL Fl
 conds:BL (BL UInt8)
 dv:BL Int
abbrev cR.cells (p:cR):List AV:=[mo p.procs.l,i64 p.static,nj p.image.l,p_ p.files.l,.ak 1 (p.conds.l.map fun s=>[.str s.l]),aU p.dv.l]
abbrev cR.av (p:cR):AV := .agg p.cells
structure Cd where
 p:cR
 b:BL Bd
abbrev Cd.cells (c:Cd):List AV:=[mo c.p.procs.l,i64 c.p.static,nj c.p.image.l,p_ c.p.files.l,.ak 1 (c.p.conds.l.map fun s=>[.str s.l]),aU c.p.dv.l,vX c.b.l]
abbrev Cd.av (c:Cd):AV := .agg c.cells
abbrev D_ (e:Int):AV := .cG 219 (.agg [i64 e])
abbrev oY (p:Prop):AE->Prop:=fun ae=>(ae = .ret (.ao [])∧p)∨∃e,ae = .aR (D_ e)∧e≠0
theorem cU {α:Type}{l:List α}{f:α->List AV}{n:Int}(h:n.toNat<l.length):(l.map f)[n.toNat]? = some (f l[n.toNat]):=by simp[h]
def zR (i:Nat)(p:eC):Prop:=(i=0->p.parent = -1)∧(i≠0->0≤p.parent∧p.parent≤(i:Int) - 1)∧p.lK.l.length≤1∧0≤p.params∧p.params≤8
def tO (l:List eC)(n:Nat):Prop:=∀(i:Nat) (h:i<l.length),i<n->zR i l[i]
abbrev jo (l:List eC):Prop:=tO l l.length
theorem tO.succ {l:List eC}{n:Nat}(h:tO l n)(hn:n<l.length)(hp:zR n l[n]):tO l (n+1):=by
 intro i hi hin;rcases Nat.lt_or_ge i n with h1|h1
 . exact h i hi h1
 . obtain rfl : i = n := by omega
   exact hp
structure Ck where
 p:cR
 proc:Int
 ar:BL Int
 fK:0≤proc∧proc<p.procs.l.length
 Hk:∀a∈ar.l,0≤a∧a<(p.procs.l.length:Int)
 hp:jo p.procs.l
abbrev Ck.cells (c:Ck):List AV:=[mo c.p.procs.l,i64 c.p.static,nj c.p.image.l,p_ c.p.files.l,.ak 1 (c.p.conds.l.map fun s=>[.str s.l]),aU c.p.dv.l,i64 c.proc,aU c.ar.l]
abbrev Ck.av (c:Ck):AV := .bq c.cells
theorem CH {d:Nat}{l:List (List AV)}{n:Int}(hl:∀x∈l,cP d x)(h:n.toNat<l.length):∃(op:Int) (t:Ty) (v:Vl) (m:Int) (l1 r1:BL (List AV)),
 l[n.toNat]? = some [i64 op,i64 t.kind,i64 t.p,i64 t.q,.bool t.fw,.str t.ep,i64 v.n,.str v.s,i64 m,.ak 11 l1.l,.ak 11 r1.l]∧(∀x∈l1.l,cP (d - 1) x)∧∀x∈r1.l,j7 (cP (d - 1)) x:=by
 have hm:=hl _ (getElem_mem h);cases d with
 | zero=>exact hm.elim
 | succ d =>
   obtain⟨op,t,v,m,l1,r1,he,h1,h2⟩:=hm;exact⟨op,t,v,m,l1,r1,by rw[getElem?_eq_getElem h,he],h1,h2⟩
theorem qx {EP:List AV->Prop}{l:List (List AV)}{n:Int}(hl:∀x∈l,j7 EP x)(h:n.toNat<l.length):∃(b u m o:Int) (p s:BL (List AV)) (t:Ty),
 l[n.toNat]? = some [i64 b,i64 u,i64 m,i64 o,.ak 11 p.l,.ak 14 s.l,i64 t.kind,i64 t.p,i64 t.q,.bool t.fw,.str t.ep]∧(∀x∈p.l,EP x)∧∀x∈s.l,rp EP x:=by
 obtain⟨b,u,m,o,p,s,t,he,h1,h2⟩:=hl _ (getElem_mem h);exact⟨b,u,m,o,p,s,t,by rw[getElem?_eq_getElem h,he],h1,h2⟩
theorem BS {n:Int}{l:Nat}:(bp n l=false)=¬(0≤n∧n<l):=by simp[bp]
theorem bz:((¬True)=False)∧(∀{n:Int} {l:Nat},(bp n l=true)=(0≤n∧n<(l:Int)))∧(∀{n:Int} {l:Nat},(bp n l=false)=¬(0≤n∧n<(l:Int)))∧(∀{p:Prop} [_i:Decidable p],(decide p=true)=p)∧(∀{p:Prop} {_i:Decidable p},decide p=false↔¬p) ∧
 (∀(a b:Bool),((a && b)=true)=(a=true∧b=true))∧(∀{x y:Bool},(x && y)=false↔x=false∨y=false)∧(∀(b:Bool),(¬b=true)=(b=false))∧(∀(b:Bool),(¬b=false)=(b=true))∧(∀(a b:Bool),((a || b)=true)=(a=true∨b=true))∧(∀{x y:Bool},(x || y)=false↔x=false∧y=false) ∧
 (∀{α:Type} {β:Type} {l:List α} (f:α->β),(List.map f l).length=l.length)∧(∀{α:Type} {a:α} {l:List α},(a::l).length=l.length+1)∧(∀{α:Type},([]:List α).length=0) ∧
 (∀{a b:Int},(aZ a b=true)=(a=b))∧(∀{a b:Int},(aZ a b=false)=¬a=b)∧(∀{a b:Int},(bM a b=true)=(a≤b))∧(∀{a b:Int},(bM a b=false)=(b<a))∧(∀{a b:Int},(bN a b=true)=(a<b))∧(∀{a b:Int},(bN a b=false)=(b≤a))∧(∀(b:Bool),((!b)=true)=(b=false))∧∀(b:Bool),((!b)=false)=(b=true):=
 ⟨not_true_eq_false,@hZ,@BS,@decide_eq_true_eq,@decide_eq_false_iff_not,@Bool.and_eq_true,@Bool.and_eq_false_iff,@Bool.not_eq_true,@Bool.not_eq_false,@Bool.or_eq_true,@Bool.or_eq_false_iff,@length_map,@length_cons,@length_nil,@mZ,@wJ,@Cb,@Ca,@Cg,@Cf,@Bool.not_eq_true',@Bool.not_eq_false'⟩
theorem cw {a b:Int}(h1 : -9223372036854775808≤a)(h2:a<9223372036854775808)(h:a=b):AV.int .i64 (wr .i64 a)=AV.int .i64 b:=by rw[aF h1 h2,h]
theorem rz:(∀{n:Int} {l:Nat},(bp n l=true)=(0≤n∧n<(l:Int)))∧(∀{a b n:Int},(jy a b n=true)=(0≤a∧a≤b∧b≤n))∧(∀{p:Prop} [_i:Decidable p],(decide p=true)=p)∧(∀(a b:Bool),((a && b)=true)=(a=true∧b=true))∧(∀(b:Bool),((!b)=true)=(b=false)) ∧
 (∀{p:Prop} {_i:Decidable p},decide p=false↔¬p)∧(∀{n m:Nat},(ble n m=true)=(n≤m))∧(∀{α:Type} {β:Type} {l:List α} (f:α->β),(List.map f l).length=l.length)∧(∀{α:Type} {a:α} {l:List α},(a::l).length=l.length+1)∧(∀{α:Type},([]:List α).length=0) ∧
 (∀{α:Type} {l r:List α},(l++r).length=l.length+r.length):=
 ⟨@hZ,@qO,@decide_eq_true_eq,@Bool.and_eq_true,@Bool.not_eq_true',@decide_eq_false_iff_not,@ble_eq,@length_map,@length_cons,@length_nil,@length_append⟩
abbrev kQ (p:Prop):AE->Prop:=fun ae=>(ae = .ret (.bool true)∧p)∨(ae = .ret (.bool false)∧¬p)
theorem DP.dec {g:FuncId}{args:List AV}{p:Prop}(h:af g args (ca fun b=>b=true↔p)):af g args (kQ p):=by
 refine h.mono ?_
 rintro ae ⟨b,rfl,hb⟩
 cases b with
 | true=>exact .inl ⟨rfl,hb.1 rfl⟩
 | false=>exact .inr ⟨rfl,fun hp=>by have:=hb.2 hp;cases this⟩
structure Bx (Q:Prop):Prop where
 v:Q
inductive Rt (R:AV->List (Nat×Option an)->List Nat->Prop):AE->Prop where
 | mk (v:AV) (h:R v [] []):Rt R (.ret v)
theorem zg {P Q:Prop}(k:Q)(h:Bx Q->P:=by first|(intro q;(conv=>whnf);(repeat' ((first|(apply Rq.mk (b:=gK _ _ _ _ _ _);(focus (exact aG)))|(apply Rq.mk;(focus (exact kU)))|refine ay.mk _ (bI aa) ?_|refine ay.mk _ (cU aa) ?_|refine And.intro (a:=iV _=true) aG (kY.e ?_)|refine Rt.mk _ ?_)<;>conv=>whnf));exact q.v)|(intro q;have x:True:=q.v;clear x q;(conv=>whnf);(repeat' ((first|(apply Rq.mk (b:=gK _ _ _ _ _ _);(focus (exact aG)))|(apply Rq.mk;(focus (exact kU)))|refine ay.mk _ (bI aa) ?_|refine ay.mk _ (cU aa) ?_|refine And.intro (a:=iV _=true) aG (kY.e ?_)|refine Rt.mk _ ?_)<;>conv=>whnf));done)|fail):P:=h ⟨k⟩
theorem zk {P Q:Prop}(k:Q)(h:Bx Q->P:=by first|(intro q;(conv=>whnf);(repeat' ((first|(apply Rq.mk (b:=gK _ _ _ _ _ _);(focus (exact aG)))|(apply Rq.mk;(focus (exact kU)))|refine And.intro (a:=iV _=true) aG (kY.e ?_)|refine Rt.mk _ ?_)<;>conv=>whnf));exact q.v)|(intro q;have x:True:=q.v;clear x q;(conv=>whnf);(repeat' ((first|(apply Rq.mk (b:=gK _ _ _ _ _ _);(focus (exact aG)))|(apply Rq.mk;(focus (exact kU)))|refine And.intro (a:=iV _=true) aG (kY.e ?_)|refine Rt.mk _ ?_)<;>conv=>whnf));done)|fail):P:=h ⟨k⟩
theorem zj {P Q:Prop}(k:Q)(h:Bx Q->P:=by first|(intro q;(conv=>whnf);(repeat' ((first|(apply Rq.mk (b:=gK _ _ _ _ _ _);(focus (exact aG)))|refine And.intro (a:=iV _=true) aG (kY.e ?_)|refine Rt.mk _ ?_)<;>conv=>whnf));exact q.v)|(intro q;have x:True:=q.v;clear x q;(conv=>whnf);(repeat' ((first|(apply Rq.mk (b:=gK _ _ _ _ _ _);(focus (exact aG)))|refine And.intro (a:=iV _=true) aG (kY.e ?_)|refine Rt.mk _ ?_)<;>conv=>whnf));done)|fail):P:=h ⟨k⟩
theorem zq {b:Bool}{A:Prop}(k:A)(h:b=true:=by first|rfl|((try simp only[rz]);omega)|fail):Rq b A := .mk h k
theorem zb {P Q R:Prop}(k:Q)(l:R)(h:Bx Q->Bx R->P:=by first|(intro q r;(first|refine Br.split (fun h=>?_) (fun h=>?_)|refine pQ (fun h=>?_) (fun h=>?_));(first|((try simp only[bz] at h);revert h;exact q.v)|(have x:True:=q.v;clear x q r;exfalso;simp only[bz] at h;done));(first|((try simp only[bz] at h);revert h;exact r.v)|(have x:True:=r.v;clear x q r;exfalso;simp only[bz] at h;done)))|fail):P:=h ⟨k⟩ ⟨l⟩
theorem zp {P Q R:Prop}(k:Q)(l:R)(h:Bx Q->Bx R->P:=by first|(intro q r;(first|refine Br.split (fun h=>?_) (fun h=>?_)|refine pQ (fun h=>?_) (fun h=>?_));(first|((try simp only[bz] at h);first|(have x:True:=q.v;clear x q r;exfalso;omega)|(revert h;exact q.v))|(have x:True:=q.v;clear x q r;exfalso;simp only[bz] at h;done));(first|((try simp only[bz] at h);first|(have x:True:=r.v;clear x q r;exfalso;omega)|(revert h;exact r.v))|(have x:True:=r.v;clear x q r;exfalso;simp only[bz] at h;done)))|fail):P:=h ⟨k⟩ ⟨l⟩
theorem zl {α:Sort _}{P:Prop}{Q:α->Prop}(k:∀i,Q i)(h:Bx (∀i,Q i)->P:=by first|(intro q;(conv=>whnf);refine And.intro ?_ ?_;(focus ((conv=>whnf);(exact q0)));exact q.v)|fail):P:=h ⟨k⟩
theorem zi {α:Sort _}{A C:α->Prop}{B:Prop}(x:α)(a:A x:=by first|((conv=>whnf);(exact q0);done)|fail)(b:B:=by first|rfl|fail)(c:C x:=by first|((try simp only[length_map] at *)<;>omega;done)|fail):∃x,A x∧B∧C x:=⟨x,a,b,c⟩
theorem zf {a b:Nat}{A B:Prop}(k:B)(h:beq a b=false:=by first|exact rfl|fail):Br (beq a b) A B := .f h k
theorem zo {e:List AV}{f:List AV->Prop}(k:f e):ay (some e) f := .mk e rfl k
theorem zw {f:FuncId}{fn:Func}{args:List AV}{Q:AE->Prop}(hf:prog.funcs[f]? = some fn)(h:fL AV.f1 args fun args'=>nk args' 0 .nil fun sl=>fN fn.ntmps fun n=>fI prog fx false (fn.body.getD .skip) (fun e _ S=>qF fx fn Q e S) 0 ⟨sl,n,.nil,0⟩)(hb:fn.body.isSome=true:=by first|rfl|fail)(hn:fn.name ≠ "runtime.NumGoroutine":=by first|decide|fail)(hl:ble args.length fn.ntmps=true:=by first|rfl|fail)(hs:blt fn.ntmps 1000000=true:=by first|rfl|fail):DP prog fx f args Q:=DP.walk aC aD hf (by revert hb;cases fn.body<;>simp) hn hl hs h
theorem zd {f:FuncId}{fn:Func}{args:List AV}{H:ai}{nx:Nat}{R:AE->ai->Nat->Prop}(hf:prog.funcs[f]? = some fn)(h:fL AV.f1 args fun args'=>nk args' 0 .nil fun sl=>fN fn.ntmps fun n=>fI prog fx false (fn.body.getD .skip) (oX fx fn R) nx ⟨sl,n,H,0⟩)(hb:fn.body.isSome=true:=by first|rfl|fail)(hn:fn.name ≠ "runtime.NumGoroutine":=by first|decide|fail)(hl:ble args.length fn.ntmps=true:=by first|rfl|fail)(hs:blt fn.ntmps 1000000=true:=by first|rfl|fail):DC prog fx f args H nx R:=DC.walk aC aD hf (by revert hb;cases fn.body<;>simp) hn hl hs h
theorem zh {nm:Nat}{g:FuncId}{first cap args args':List AV}{H:ai}{Q:AE->Prop}{R:AV->List (Nat×Option an)->List Nat->Prop}(hs:aM (snap .nil 20) (first++args++cap)=some args')(h:DP prog fx g args' Q)(hq:∀ae,Q ae->Rt R ae):DV prog fx nm (.fn (.func g) first cap) args H R:=
 DV.pure hs h fun ae k=>match ae,hq ae k with
  | _,.mk v h=>⟨v,rfl,h⟩
abbrev c9 (f:FuncId)(args:List AV)(H:ai)(nx:Nat)(R:AE->ai->Nat->Prop):Prop:=DC prog fx f args H nx R
theorem W {P : Prop}(h:P:=by
 conv=>whnf
 repeat' ((first
  | refine Rq.mk (b:=gK _ _ _ _ _ _) aG ?_
  | refine Rq.mk kU ?_
  | ((first|refine Br.split (fun h=>?_) (fun h=>?_)|refine pQ (fun h=>?_) (fun h=>?_))<;>(try simp only[bz] at h)<;>try (exfalso;omega))
  | refine ay.mk _ (bI aa) ?_
  | refine ay.mk _ (cU aa) ?_
  | ((first|refine DC.pure rfl (k1 ..) ?_|refine DC.pure rfl (k2 ..) ?_|refine DC.pure rfl (k3 ..) ?_|refine DC.pure rfl (k4 ..) ?_|refine DC.pure rfl (k5 ..) ?_|refine DC.pure rfl (k6 ..) ?_|refine DC.pure rfl (k7 ..) ?_|refine DC.pure rfl (k8 ..) ?_|refine DC.pure rfl (k9 ..) ?_);first|rintro _ rfl|rintro _ ⟨b,rfl,hb⟩|rintro _ (⟨rfl,hx⟩|⟨rfl,hx⟩))
  | ((first|refine DV.pure rfl (k1 ..) ?_|refine DV.pure rfl (k2 ..) ?_|refine DV.pure rfl (k3 ..) ?_|refine DV.pure rfl (k4 ..) ?_|refine DV.pure rfl (k5 ..) ?_|refine DV.pure rfl (k6 ..) ?_|refine DV.pure rfl (k7 ..) ?_|refine DV.pure rfl (k8 ..) ?_|refine DV.pure rfl (k9 ..) ?_);(first|rintro _ rfl|rintro _ ⟨b,rfl,hb⟩)<;>refine⟨_,rfl,?_⟩)
  | refine And.intro (a:=iV _=true) aG (kY.e ?_)
  | refine ay.mk _ rfl ?_)<;>conv=>whnf)
 all_goals first|rfl|exact⟨_,rfl,trivial⟩|exact⟨_,_,rfl⟩|exact⟨_,rfl,by omega⟩|exact⟨_,rfl,by simp;omega⟩|exact⟨_,rfl,by simp_all⟩|(simp only[*];rfl)|exact⟨_,rfl,by simp only[true_iff,false_iff,Bool.false_eq_true];omega⟩|exact⟨_,rfl,by grind⟩):P:=h
end Go.Ago
