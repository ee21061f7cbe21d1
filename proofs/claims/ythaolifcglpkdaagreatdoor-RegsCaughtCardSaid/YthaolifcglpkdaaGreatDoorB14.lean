/-
  Part B14: lemmas, each with its own conditions.
-/
import Derived.Test.YthaolifcglpkdaaGreatDoorB09
import Derived.Test.YthaolifcglpkdaaGreatDoorB12
set_option maxRecDepth 100000
set_option maxHeartbeats 0
set_option linter.all false
namespace Go.Ago
open Go.Proofs List Nat Tryz
attribute [local irreducible] bA bw aV bp bG wr aZ bF comp DC DP DW DV
theorem rK:∀{d c:List (Int×AV)},cu d->cu c->(∀k x,(k,x)∈d↔(k,x)∈c)->d=c
 | [],[],_,_,_=>rfl
 | [],(b,y)::s,_,_,h=>by grind
 | (a,x)::r,[],_,_,h=>by grind
 | (a, x) :: r, (b, y) :: s, m, l, h => by
   obtain⟨n,j⟩:=qF.1 m;obtain⟨o,i⟩:=qF.1 l;have f:a=b∧x=y:=by
    grind
   obtain⟨rfl,rfl⟩:=f;rw[rK j i fun k z=>⟨fun g=>by
    grind,fun g=>by
    grind⟩]
def dj (a:List (Int×AV)):List (Int×AV)->List (Int×AV)
 | []=>a
 | (k,y)::l=>dj (eu a k y) l
theorem kq:∀{l a:List (Int×AV)},cu a->cu (dj a l)
 | [],_,h=>h
 | (k,y)::l,a,h=>kq (l:=l) (nK h)
theorem ql {g:Int->AV}:∀{l a:List (Int×AV)},cu a->(∀p∈l,p.2=g p.1)->∀j x,(j,x)∈dj a l↔(x=g j∧∃y,(j,y)∈l)∨((j,x)∈a∧∀y,(j,y)∉l)
 | [],a,_,_,j,x=>by simp[dj]
 | (k, y) :: l, a, c, d, j, x => by
   rw[dj,ql (nK c) (fun p e=>d p (by simp_all)),ja c]
   grind
def dM (es l:List (Int×AV))(g:Int->AV):List (Int×AV):=(es.filter fun p=>!l.any fun q=>decide (q.1=p.1)).map fun p=>(p.1,g p.1)
theorem so {es l:List (Int×AV)}{g:Int->AV}{j:Int}:(∃y,(j,y)∈dM es l g)↔(∃x,(j,x)∈es)∧∀y,(j,y)∉l:=by
 unfold dM
 constructor
 . grind
 rintro⟨⟨x,a⟩,b⟩
 refine⟨g j,zbG.2 ⟨(j,x),zbY.2 ⟨a,?_⟩,rfl⟩⟩
 grind
theorem rH {es l:List (Int×AV)}{g:Int->AV}:∀p∈dM es l g,p.2=g p.1:=by
 intro p a;obtain⟨q,_,rfl⟩:=zbG.1 a;rfl
theorem rG {es:List (Int×AV)}{g:Int->AV}:dM es es g=[]:=by
 refine zcE.2 fun p a=>?_
 obtain⟨⟨x,b⟩,h⟩:=so.1 ⟨p.2,a⟩
 grind
theorem se {a es l:List (Int×AV)}{g:Int->AV}(b:cu a){k:Int}{x:AV}(n:∀p∈l,p∈es)(h:(k,x)∈l):eu (dj a (dM es l g)) k (g k)=dj a (dM es (fG l k) g):=by
 refine rK (nK (kq b)) (kq b) fun j y=>?_
 rw[ja (kq b),ql b rH,ql b rH,so];have e:∀(y:AV),(∀z,(j,z)∉dM es l g)↔¬((∃x,(j,x)∈es)∧∀y,(j,y)∉l):=fun _=>by rw[<-so (g:=g)];simp
 have f:(∀z,(j,z)∉dM es (fG l k) g)↔¬((∃x,(j,x)∈es)∧∀y,(j,y)∉fG l k):=by rw[<-so (g:=g)];simp
 rw[e y]
 by_cases i:j=k
 . have m : ∀ y, (j, y) ∉ fG l j := fun y c => (nv.1 c).2 rfl
   grind
 . have m : (∀ y, (j, y) ∉ fG l k) ↔ ∀ y, (j, y) ∉ l := ⟨fun d y c => d y (nv.2 ⟨c, i⟩), fun d y c => d y (nv.1 c).1⟩
   grind
abbrev au (b:Bool)(l:List Int):List AV:=[.bool b,aT l]
abbrev bJ (M:List (Int×AV))(b:Bool)(l:List Int):AV := .agg [.cK M,.bool b,aT l]
theorem Ij {M:List (Int×AV)}{g:Int->AV}(c:cu M):dj [] (dM M [] g)=M.map fun p=>(p.1,g p.1):=by
 have a:cu []:=by simp[cu]
 have b:cu (M.map fun p=>(p.1,g p.1)):=by unfold cu at *;grind
 refine rK (kq a) b fun k x=>?_
 rw[ql a rH,so]
 grind
def ju (v:AV):Prop:=∃b l,v = .agg (au b l)
theorem Zk {ρ:Nat->Nat}{v:AV}(h:ju v):v.r1 ρ=v:=by obtain⟨b,l,rfl⟩:=h;rfl
theorem Zj {n:Nat}{v:AV}(h:ju v):v.l1 n=true:=by obtain⟨b,l,rfl⟩:=h;rfl
theorem Zl {H:aj}{n:Nat}{v:AV}(h:ju v):snap H (n+2) v=some v:=by obtain⟨b,l,rfl⟩:=h;rfl
def gB (es:List (Int×AV)):Prop:=∀p∈es,ju p.2
theorem kP {es es':List (Int×AV)}{ρ:Nat->Nat}(b:es=es')(h:gB es'):an.mp es=(an.mp es').cp ρ:=by
 subst b
 congr 1
 conv=>lhs;rw[<-map_id es]
 refine zbZ fun p a=>?_
 have:=Zk (ρ:=ρ) (h _ a)
 grind
theorem kO {es:List (Int×AV)}{n:Nat}(h:gB es):(es.all fun p=>p.2.l1 n)=true:=zbr.2 fun p a=>Zj (h p a)
theorem DQ {H:aj}{n:Nat}:∀{es:List (Int×AV)},gB es->aM (gl (snap H (n+2))) es=some es
 | [],_=>rfl
 | (a, v) :: l, h => by
   have e:=Zl (H:=H) (n:=n) (h (a,v) ag);have d:=DQ (H:=H) (n:=n) (es:=l) fun p c=>h p (by simp_all)
   simp[aM,gl]
   grind
theorem Zi {es:List (Int×AV)}{k:Int}{v:AV}(b:cu es)(h:gB es)(c:ju v):gB (eu es k v):=by
 rintro⟨j,x⟩ a
 rcases(ja b j x).1 a with⟨_,rfl⟩|⟨a,_⟩
 . exact c
 exact h _ a
theorem eL {es l a:List (Int×AV)}{g:Int->AV}(c:cu a)(h:gB a)(d:∀k,ju (g k)):gB (dj a (dM es l g)):=by
 rintro⟨j,x⟩ b
 rcases(ql c rH j x).1 b with⟨rfl,_⟩|⟨b,_⟩
 . grind
 exact h _ b
theorem eJ:cu []:=by simp[cu]
theorem gy:gB []:=fun p a=>by cases a
theorem IF {f:AV->Option AV}{k:Int}{v w:AV}(j:f v=some w):∀{es es':List (Int×AV)},aM (gl f) es=some es'->aM (gl f) (eu es k v)=some (eu es' k w)
 | [], _, h => by
   simp only[aM,zbg] at h;subst h;simp[eu,aM,gl,j]
 | (a, x) :: l, es', h => by
   simp only[aM] at h;cases b:gl f (a,x) with
   | none=>rw[b] at h;cases h
   | some y =>
     rw[b] at h;dsimp only at h;cases e:aM (gl f) l with
     | none=>rw[e] at h;cases h
     | some p =>
       rw[e] at h;cases h;obtain⟨c,z⟩:=y;have o:c=a:=by
        unfold gl at b;dsimp only at b;cases i:f x with
        | none=>rw[i] at b;cases b
        | some u=>rw[i] at b;cases b;rfl
       subst o;simp only[eu]
       by_cases n:c<k
       . rw [zbF n]
         simp only[aM];rw[b,IF j e]
       . rw [zbT n]
         dsimp only;have g:gl f (k,v)=some (k,w):=by unfold gl;dsimp only;rw[j]
         by_cases m:c=k
         . rw [zbF m]
           simp only[aM];rw[g,e]
         . rw [zbT m]
           simp only[aM];rw[g,b,e]
theorem da {α a:Type}{f:α->Option a}{x:α}{l:List α}{y:a}{r:List a}(h:f x=some y)(b:aM f l=some r):aM f (x::l)=some (y::r):=by simp[aM,h,b]
theorem sV {H:aj}{n:Nat}{cs a:List AV}(h:aM (snap H n) cs=some a):snap H (n+1) (.agg cs)=some (.agg a):=by simp[snap,h]
theorem Lj {H:aj}{n nm:Nat}{es:List (Int×AV)}{k:Int}{v w:AV}(h:H.get nm=some (.mp (eu es k v)))(b:gB es)(a:snap H (n+2) v=some w):snap H (n+3) (.cX nm)=some (.cK (eu es k w)):=by
 rw[snap];rw[h]
 dsimp
 rw[IF a (DQ b)]
theorem y6 {H:aj}{n k:Nat}{es:List (Int×AV)}(h:H.get k=some (.mp es))(a:gB es):snap H (n+3) (.cX k)=some (.cK es):=by
 rw[snap];rw[h]
 dsimp
 rw[DQ a]
theorem Dz (M:List (Int×AV))(hM:cu M)(b:Bool)(l:List Int)(r f:Int)(g:Int->AV)(o:Bool)(l2:List Int)(h0:af 170 [.agg (au b l),i64 r] (fun i=>i = .ret (.agg (au o l2))))
 (hv:gB M)(d:∀k,ju (g k))(h:∀k x,(k,x)∈M->af 170 [x,i64 r] (fun i=>i = .ret (g k))) :
 af 116 [bJ M b l,i64 r,i64 f] (fun i=>i = .ret (bJ (eu (M.map fun p=>(p.1,g p.1)) f (.agg (au false [r]))) o l2)):=by
 refine zw func116 ?_;refine zg ?_
 repeat' ((refine DC.pure rfl (h0) ?_;rintro _ rfl)<;>refine zg ?_)
 refine DW.si aC aD M 12 18 19 20 [1,2,6,7,18] [2] 200 (fun _=>[]) (fun l=>[(2,.mp (dj [] (dM M l g)))]) [] hM rfl rfl rfl rfl rfl rfl rfl rfl rfl rfl ?_
 conv=>whnf
 refine⟨?_,fun l=>?_,?_,fun l uF c k x a=>?_⟩
 . conv => whnf
   (repeat' first|exact True.intro|apply And.intro|rfl|exact kP (by first|rfl|exact(zbc (dj []) rG).symm) (eL eJ gy d)|exact kO (eL eJ gy d))
 . conv => whnf
   rfl
 . conv => whnf
   generalize m:snap _ 20 _=rr
   obtain rfl:=m.symm.trans (sV (n:=19) (da (Lj (n:=16) (w := .agg (au false [r])) rfl (eL eJ gy d) rfl) rfl))
   conv=>whnf
   rw[Ij hM]
 . obtain ⟨b1, l1, rfl⟩ := hv (k, x) (c _ a)
   obtain⟨b3,l3,j⟩:=d k;have hw:=h k _ (c _ a);rw[j] at hw;have e:=se (g:=g) eJ c a;rw[j] at e;refine zg ?_
   repeat' ((refine zh rfl (hw) ?_;rintro _ rfl)<;>refine zg ?_)
   refine⟨rfl,rfl,rfl,?_⟩
   conv=>whnf
   (repeat' first|exact True.intro|apply And.intro|rfl|exact kP (by exact e) (eL eJ gy d)|exact kO (eL eJ gy d))
theorem Yz (M:List (Int×AV))(hM:cu M)(b:Bool)(r f:Int)(g:Int->AV)(o:Bool)(l2:List Int)(h0:af 170 [.agg [.bool b,.ai],i64 r] (fun i=>i = .ret (.agg (au o l2))))
 (hv:gB M)(d:∀k,ju (g k))(h:∀k x,(k,x)∈M->af 170 [x,i64 r] (fun i=>i = .ret (g k))) :
 af 116 [.agg [.cK M,.bool b,.ai],i64 r,i64 f] (fun i=>i = .ret (bJ (eu (M.map fun p=>(p.1,g p.1)) f (.agg (au false [r]))) o l2)):=by
 refine zw func116 ?_;refine zg ?_
 repeat' ((refine DC.pure rfl (h0) ?_;rintro _ rfl)<;>refine zg ?_)
 refine DW.si aC aD M 12 18 19 20 [1,2,6,7,18] [2] 200 (fun _=>[]) (fun l=>[(2,.mp (dj [] (dM M l g)))]) [] hM rfl rfl rfl rfl rfl rfl rfl rfl rfl rfl ?_
 conv=>whnf
 refine⟨?_,fun l=>?_,?_,fun l uF c k x a=>?_⟩
 . conv => whnf
   (repeat' first|exact True.intro|apply And.intro|rfl|exact kP (by first|rfl|exact(zbc (dj []) rG).symm) (eL eJ gy d)|exact kO (eL eJ gy d))
 . conv => whnf
   rfl
 . conv => whnf
   generalize m:snap _ 20 _=rr
   obtain rfl:=m.symm.trans (sV (n:=19) (da (Lj (n:=16) (w := .agg (au false [r])) rfl (eL eJ gy d) rfl) rfl))
   conv=>whnf
   rw[Ij hM]
 . obtain ⟨b1, l1, rfl⟩ := hv (k, x) (c _ a)
   obtain⟨b3,l3,j⟩:=d k;have hw:=h k _ (c _ a);rw[j] at hw;have e:=se (g:=g) eJ c a;rw[j] at e;refine zg ?_
   repeat' ((refine zh rfl (hw) ?_;rintro _ rfl)<;>refine zg ?_)
   refine⟨rfl,rfl,rfl,?_⟩
   conv=>whnf
   (repeat' first|exact True.intro|apply And.intro|rfl|exact kP (by exact e) (eL eJ gy d)|exact kO (eL eJ gy d))
end Go.Ago
namespace Go.Ago
open Go.Proofs List Nat Tryz
theorem V9:(prog.funcs.toList.all fun f=>!(f.name == "runtime.NumGoroutine"))=true:=aG
theorem V8 (g:Nat)(fn:Func)(h:prog.funcs[g]? = some fn):fn.name ≠ "runtime.NumGoroutine":=by
 have:=zbr.1 V9 fn (zby (i:=g) (by rw[zcJ];exact h))
 simpa using this
theorem PY (g:FuncId)(cap:List AV)(h:DP prog fB g cap (· = .ret (.ao []))):DP prog fB 127 [.fn (.func g) [] cap] (· = .ret (i64 0)):=by
 obtain⟨ae,h1,rfl⟩:=h;exact⟨_,FD h1,rfl⟩
def Xu (g:Nat):Bool:=[33,37,39,42,43,45,51,62,84,88,91,111,167,170].any fun k=>beq g k
def SA (g:Nat):Bool:=[18,19,75,78].any fun k=>beq g k
def SD (g:Nat)(id:Nat):List Nat:=match beq g 62 with
 | true=>[999]
 | false => match beq g 46 with
   | true => match beq id 5 with
     | true=>[8]
     | false => match beq id 20 with
       | true=>[15]
       | false=>[]
   | false=>[]
abbrev wR (Kn:Nat->Option (List AV->Option AV))(n:Nat):js:=ev prog fB Kn 127 SA SD Xu n
def z7 (Kn:Nat->Option (List AV->Option AV)):Prop:=∀g T args v,Kn g=some T->T args=some v->af g args (· = .ret v)
theorem GI {Kn:Nat->Option (List AV->Option AV)}(hK:z7 Kn){n:Nat}{g:FuncId}{args:List AV}{v:AV}(h:(wR Kn n).P g args (fun ae=>ae = .ret v)=(AE.ret v=AE.ret v)):af g args (· = .ret v):=
 (GK aC aD V8 hK PY n).P _ _ _ (h ▸ rfl)
def iB {α:Type}(f:α->α->Bool):List α->List α->Bool
 | [],[]=>true
 | x :: xs, y :: ys => match f x y with
   | true=>iB f xs ys
   | false=>false
 | _,_=>false
theorem m_ {α:Type}{f:α->α->Bool}(hf:∀x y,f x y=true->x=y):∀{xs ys:List α},iB f xs ys=true->xs=ys
 | [],[],_=>rfl
 | x :: xs, y :: ys, h => by
   simp only[iB] at h;cases hx:f x y with
   | true=>rw[hx] at h;rw[hf x y hx,m_ hf h]
   | false=>rw[hx] at h;cases h
 | [],_::_,h=>by cases h
 | _::_,[],h=>by cases h
def wP:Int->Int->Bool
 | .ofNat a,.ofNat b=>beq a b
 | .negSucc a,.negSucc b=>beq a b
 | _,_=>false
theorem GD {a b:Int}(h:wP a b=true):a=b:=by
 cases a<;>cases b<;>first|(rw[zbl h])|cases h
def AV.lC:Nat->AV->AV->Bool
 | 0,_,_=>false
 | n + 1, x, y => match x, y with
   | .bool a, .bool b => match a, b with
     | true,true=>true
     | false,false=>true
     | _,_=>false
   | .int k a, .int k' b => match decide (k = k') with
     | true=>wP a b
     | false=>false
   | .str a,.str b=>iB (fun u v=>beq u.toNat v.toNat) a b
   | .ai,.ai=>true
   | .dI,.dI=>true
   | .cY,.cY=>true
   | .ak s es, .ak s' es' => match beq s s' with
     | true=>iB (iB (AV.lC n)) es es'
     | false=>false
   | .bm cs,.bm cs'=>iB (AV.lC n) cs cs'
   | .agg cs,.agg cs'=>iB (AV.lC n) cs cs'
   | .ao cs,.ao cs'=>iB (AV.lC n) cs cs'
   | .cK es, .cK es' => iB (fun p q => match wP p.1 q.1 with
     | true=>AV.lC n p.2 q.2
     | false=>false) es es'
   | _,_=>false
theorem AV.GF:∀{n:Nat} {x y:AV},AV.lC n x y=true->x=y
 | 0,_,_,h=>by cases h
 | n + 1, x, y, h => by
   have ih:∀x y,AV.lC n x y=true->x=y:=fun x y h=>AV.GF h
   cases x<;>cases y<;>first|(cases h;done)|rfl|skip
   case bool a b=>cases a<;>cases b<;>first|rfl|cases h
   case int k a k' b=>
    simp only[AV.lC] at h
    by_cases hk:k=k'
    . subst hk;rw[zbF rfl] at h;rw[GD h]
    . rw[zbT hk] at h;cases h
   case str a b=>rw[m_ (fun u v h=>UInt8.toNat_inj.1 (zbl h)) (h:iB _ a b=true)]
   case ak s es s' es'=>
    simp only[AV.lC] at h;cases hs:beq s s' with
    | true=>rw[hs] at h;rw[zbl hs,m_ (fun x y h=>m_ ih h) h]
    | false=>rw[hs] at h;cases h
   case bm a b=>rw[m_ ih (h:iB _ a b=true)]
   case agg a b=>rw[m_ ih (h:iB _ a b=true)]
   case ao a b=>rw[m_ ih (h:iB _ a b=true)]
   case cK a b=>
    rw[m_ (fun p q h=>?_) (h:iB _ a b=true)]
    obtain⟨p1,p2⟩:=p;obtain⟨q1,q2⟩:=q;dsimp only at h;cases hp:wP p1 q1 with
    | true=>rw[hp] at h;rw[GD hp,ih _ _ h]
    | false=>rw[hp] at h;cases h
abbrev j5:=Nat×List AV×AV
def vo (T:List j5)(g:Nat)(args:List AV):Option AV:=
 match T with
 | []=>none
 | (g', bs, v) :: T => match beq g g' && iB (AV.lC 30) args bs with
   | true=>some v
   | false=>vo T g args
theorem D4:∀{T:List j5} {g:Nat} {args:List AV} {v:AV},(∀r∈T,af r.1 r.2.1 (· = .ret r.2.2))->vo T g args=some v->af g args (· = .ret v)
 | [],_,_,_,_,h=>by cases h
 | (g', bs, u) :: T, g, args, v, hT, h => by
   simp only[vo] at h;cases hc:beq g g' && iB (AV.lC 30) args bs with
   | true =>
     rw[hc] at h;cases h;simp only[zbe] at hc;have e1:=zbl hc.1;have e2:=m_ (fun _ _ h=>AV.GF h) hc.2
     subst e1;subst e2;exact hT _ zck
   | false=>rw[hc] at h;exact D4 (fun r hr=>hT r (zbO _ hr)) h
def D2 (T:List j5)(g:Nat):Bool:=
 match T with
 | []=>false
 | (g', _, _) :: T => match beq g g' with
   | true=>true
   | false=>D2 T g
def wG:List AV->Option AV
 | [.str s,.str [c]]=>some (.bool (rB s c))
 | _=>none
def Ef:List AV->Option Ty
 | [.int .i64 k,.int .i64 p,.int .i64 q,.bool v,.str s]=>if h:s.length<281474976710656 then some ⟨k,p,q,v,s,h⟩ else none
 | _=>none
theorem zaj {r:List AV}{t:Ty}(h:Ef r=some t):r=t.cells:=by
 unfold Ef at h;split at h
 . split at h
   . cases h;rfl
   . cases h
 . cases h
def Ca:List AV->Option Int
 | [.int .i64 k]=>some k
 | _=>none
theorem TH {r:List AV}{t:Int}(h:Ca r=some t):r=[i64 t]:=by
 unfold Ca at h;split at h
 . cases h;rfl
 . cases h
def yI {α:Type}(s:Nat)(f:List AV->Option α):AV->Option (List α)
 | .ai=>some []
 | .ak s' es => match beq s s' with
   | true=>aM f es
   | false=>none
 | _=>none
theorem Kx {α:Type}{s:Nat}{f:List AV->Option α}{g:α->List AV}(hf:∀r t,f r=some t->r=g t){x:AV}{l:List α}(h:yI s f x=some l):gg x (.ak s (l.map g)):=by
 unfold yI at h;split at h
 . cases h;exact .n
 . rename_i s' es
   cases hs:beq s s' with
   | true =>
     rw[hs] at h;have:=zbl hs;subst this;have key:∀{es:List (List AV)} {l:List α},aM f es=some l->es=l.map g:=by
      intro es
      induction es with
      | nil=>intro l h;simp only[aM,zbg] at h;subst h;rfl
      | cons e es ih =>
        intro l h;simp only[aM] at h;cases he:f e with
        | none=>rw[he] at h;cases h
        | some y =>
          rw[he] at h;dsimp only at h;cases hr:aM f es with
          | none=>rw[hr] at h;cases h
          | some ys=>rw[hr] at h;cases h;rw[zcq,ih hr,hf _ _ he]
     rw[key h];exact .r
   | false=>rw[hs] at h;cases h
 . cases h
def xq:List AV->Option Ins
 | [.int .i64 op,.int .i64 d,.int .i64 a,.int .i64 b,.int .i64 tk,.int .i64 tp,.int .i64 tq,.bool tv,.str ts,.int .i64 uk,.int .i64 up,.int .i64 uq,.bool uv,.str us,.int .i64 wk,.int .i64 wp,.int .i64 wq,.bool wv,.str ws,
  .int .i64 n,.int .i64 m,.int .i64 p,.int .i64 vn,.str vs,.ai,l,y,.bool sz,.bool rg]=>match yI 1 Ca l,yI 5 Ef y with
  | some ll,some yy=>if h:ts.length<281474976710656∧us.length<281474976710656∧ws.length<281474976710656∧vs.length<281474976710656∧ll.length<281474976710656∧yy.length<281474976710656 then
   some ⟨op,d,a,b,⟨tk,tp,tq,tv,ts,h.1⟩,⟨uk,up,uq,uv,us,h.2.1⟩,⟨wk,wp,wq,wv,ws,h.2.2.1⟩,n,m,p,⟨vn,vs,h.2.2.2.1⟩,⟨[],ab⟩,⟨ll,h.2.2.2.2.1⟩,⟨yy,h.2.2.2.2.2⟩,sz,rg⟩ else none
  | _,_=>none
 | _=>none
theorem TS {cs:List AV}{i:Ins}(h:xq cs=some i):fT gg cs i.cells:=by
 unfold xq at h;split at h
 . split at h
   . rename_i ll yy hl hy
     split at h
     . cases h
       exact⟨.r,.r,.r,.r,.r,.r,.r,.r,.r,.r,.r,.r,.r,.r,.r,.r,.r,.r,.r,.r,.r,.r,.r,.r,.n,Kx (fun _ _ h=>TH h) hl,Kx (fun _ _ h=>zaj h) hy,.r,.r,trivial⟩
     . cases h
   . cases h
 . cases h
theorem DP.lZ {P:Program}{E:Env}{g:FuncId}{args args2:List AV}{Q:AE->Prop}(hx:fT n0 args args2)(h:DP P E g args2 Q):DP P E g args Q:=by
 obtain⟨ae,⟨h0,h1⟩,h2⟩:=h;exact⟨ae,⟨h0,fun c w vs hf hw hr=>h1 c w vs hf hw (qo (fun _ _ _ a b=>n0.rel a b) hx hr)⟩,h2⟩
theorem Gb {args:List AV}{v:AV}(h:wG args=some v):af 138 args (· = .ret v):=by
 unfold wG at h;split at h
 . cases h;exact pN _ _
 . cases h
def xy (T:List j5)(g:Nat):Option (List AV->Option AV):=
 match beq g 138 with
 | true=>some wG
 | false => match D2 T g with
   | true=>some (vo T g)
   | false=>none
theorem UJ {T:List j5}(hT:∀r∈T,af r.1 r.2.1 (· = .ret r.2.2)):z7 (xy T):=by
 intro g U args v h hv;unfold xy at h;split at h
 . rename_i e;cases h;rw[zbl e];exact Gb hv
 . split at h
   . cases h;exact D4 hT hv
   . cases h
theorem uO {T:List j5}(hT:∀r∈T,af r.1 r.2.1 (· = .ret r.2.2)){n:Nat}{g:FuncId}{args:List AV}{v:AV}(h:(wR (xy T) n).P g args (fun ae=>ae = .ret v)=(AE.ret v=AE.ret v)):af g args (· = .ret v):=GI (UJ hT) h
end Go.Ago
namespace Go.Ago
open Go.Proofs List Nat Tryz
attribute [local irreducible] bA bw aV bp bG wr aZ bF comp DC DP DW DV
attribute [local irreducible] nu gq
theorem wY {es:List (Int×AV)}{k:Int}{v:AV}(h:cu es):gq (eu es k v) k=some v:=Bs (nK h) ((ja h k v).2 (ag))
theorem Iz {z v:AV}:nu z false (some v)=v:=by unfold nu;rfl
def dz (a:Bool)(b:Int->Bool)(es l:List (Int×AV)):Bool:=a || (es.filter fun p=>!l.any fun q=>decide (q.1=p.1)).any fun p=>b p.1
theorem xC {a:Bool}{b:Int->Bool}{es:List (Int×AV)}:dz a b es es=a:=by
 unfold dz
 grind
theorem Vd {c:Bool}{i:Int->Bool}{es l:List (Int×AV)}{k:Int}{x:AV}(o:∀p∈l,p∈es)(h:(k,x)∈l):dz c i es (fG l k)=(dz c i es l || i k):=by
 unfold dz;rw[Bool.or_assoc]
 congr 1
 rw[Bool.eq_iff_iff];simp only[any_eq_true,zbY,zb4,any_eq_false,zbz,zbQ]
 constructor
 . rintro ⟨p, ⟨j, g⟩, d⟩
   by_cases m:p.1=k
   . exact .inr (by rw[<-m];exact d)
   . exact .inl ⟨p,⟨j,fun q f e=>g q (by obtain⟨a,b⟩:=q;exact nv.2 ⟨f,fun n=>m (by rw[<-e];exact n)⟩) e⟩,d⟩
 . rintro (⟨p, ⟨j, g⟩, d⟩ | d)
   . exact⟨p,⟨j,fun q f e=>g q (by obtain⟨a,b⟩:=q;exact(nv.1 f).1) e⟩,d⟩
   . exact⟨(k,x),⟨o _ h,fun q f e=>by obtain⟨a,b⟩:=q;exact(nv.1 f).2 e⟩,d⟩
theorem Ll {H:aj}{n:Nat}{x y b a:AV}(d:snap H n x=some b)(c:snap H n y=some a):snap H (n+1) (.ao [x,y])=some (.ao [b,a]):=by simp[snap,aM,d,c]
theorem uU (M N:List (Int×AV))(hM:cu M)(hN:cu N)(b c:Bool)(l m:List Int)(g D ob:Int->AV)(t:Int->Bool)(E:Bool)(F:List Int)
 (h0:af 167 [.agg (au b l),.agg (au c m)] (fun i=>i = .ret (.agg (au E F))))(h1:af 168 [.agg (au E F),.agg (au b l)] (fun i=>i = .ret (.bool true)))
 (j:∀k,ju (g k))(L:∀k,ju (D k))(O:∀k,ju (ob k))(hv:gB M)(hw:gB N)
 (A:∀k,(∃x,(k,x)∈M∨(k,x)∈N)->af 65 [bJ M b l,i64 k] (fun i=>i = .ret (D k)))(C:∀k,(∃x,(k,x)∈M∨(k,x)∈N)->af 65 [bJ N c m,i64 k] (fun i=>i = .ret (ob k)))
 (B:∀k,(∃x,(k,x)∈M∨(k,x)∈N)->af 167 [D k,ob k] (fun i=>i = .ret (g k)))(u:∀k,(∃x,(k,x)∈M∨(k,x)∈N)->af 168 [g k,D k] (fun i=>i = .ret (.bool (t k)))) :
 af 114 [bJ M b l,bJ N c m] (fun i=>i = .ret (.ao [bJ (dj (dj [] (dM M [] g)) (dM N [] g)) E F,.bool (dz (dz false (fun k=>!t k) M []) (fun k=>!t k) N [])])):=by
 have e:cu (dj [] (dM M [] g)):=kq eJ;have q:gB (dj [] (dM M [] g)):=eL eJ gy j;have w:wr IntKind.i64 (0+1)=1:=aE aa aa;have hw2:wr IntKind.i64 (wr IntKind.i64 (0+1)+1)=2:=by rw[w];exact aE aa aa
 refine zw func114 ?_;refine zg ?_
 repeat' ((first|(refine DC.pure rfl (h0) ?_;rintro _ rfl)|(refine DC.pure rfl (h1) ?_;rintro _ rfl))<;>refine zg ?_)
 refine DW.rounds aC aD 3 ?_
 conv=>whnf
 refine zg ?_
 repeat' ((first|(refine zp ?_ ?_<;>first|exact⟨⟩|intro h)|refine zo ?_)<;>refine zg ?_)
 refine DW.si aC aD M 30 33 34 35 [2,3,4,5,6,9,28,29,30,31,32,33] [4] 200 (fun l=>[(7,.bool (dz false (fun k=>!t k) M l))]) (fun l=>[(4,.mp (dj [] (dM M l g)))]) [] hM rfl rfl rfl rfl rfl rfl rfl rfl rfl rfl ?_
 conv=>whnf
 refine⟨?_,fun l=>?_,?_,fun l G hl2 k x hkx=>?_⟩
 . conv => whnf
   (repeat' first|exact True.intro|apply And.intro|rfl|exact zbc AV.bool xC.symm|exact kP (by first|rfl|exact(zbc (dj []) rG).symm) (eL eJ gy j)|exact kO (eL eJ gy j))
 . conv => whnf
   rfl
 . refine zk ?_
   repeat' ((first|(refine az.mk _ (by rw[w];rfl) ?_)|(refine zp ?_ ?_<;>first|exact⟨⟩|intro h))<;>refine zk ?_)
   refine DW.si aC aD N 239 33 34 35 [2,3,4,5,6,9,28,29,30,31,32,33] [4] 200 (fun l=>[(7,.bool (dz (dz false (fun k=>!t k) M []) (fun k=>!t k) N l))]) (fun l=>[(4,.mp (dj (dj [] (dM M [] g)) (dM N l g)))]) [] hN rfl rfl rfl rfl rfl rfl rfl rfl rfl rfl ?_
   conv=>whnf
   refine⟨?_,fun l=>?_,?_,fun l G hl2 k x hkx=>?_⟩
   . conv => whnf
     (repeat' first|exact True.intro|apply And.intro|rfl|exact zbc AV.bool xC.symm|exact kP (by first|rfl|exact(zbc (dj _) rG).symm) (eL e q j)|exact kO (eL e q j))
   . conv => whnf
     rfl
   . refine zg ?_
     repeat' ((refine zp ?_ ?_<;>first|exact⟨⟩|intro h)<;>refine zg ?_)
     all_goals (generalize H:snap _ 20 _=rr;obtain rfl:=H.symm.trans (Ll (n:=19) (sV (n:=18) (da (y6 (n:=15) rfl (eL e q j)) rfl)) rfl);(conv=>whnf);(rw[h]))
   . have a : ∃ y, (k, y) ∈ M ∨ (k, y) ∈ N := ⟨x, .inr (hl2 _ hkx)⟩
     obtain⟨bx,lx,rfl⟩:=hw (k,x) (hl2 _ hkx);obtain⟨ba,la,I⟩:=L k;obtain⟨bb,lb,J⟩:=O k;obtain⟨bg,lg,z⟩:=j k;have o:=A k a;have p:=C k a;have d:=B k a;have f:=u k a;rw[I] at o d f;rw[J] at p d;rw[z] at d f;have r:=se (g:=g) e hl2 hkx;rw[z] at r;have s:∀v,gq (eu (dj (dj [] (dM M [] g)) (dM N l g)) k v) k=some v:=fun v=>wY (kq e)
     refine zg ?_
     repeat' ((first|(refine zb ?_ ?_<;>(intro h))|(refine zh rfl o ?_;rintro _ rfl)|(refine zh rfl p ?_;rintro _ rfl)|(refine zh rfl d ?_;rintro _ rfl)|(refine zh rfl f ?_;rintro _ rfl)|rw[s,Iz])<;>refine zg ?_)
     all_goals refine⟨rfl,rfl,rfl,?_⟩
     all_goals conv=>whnf
     all_goals (repeat' first|exact True.intro|apply And.intro|rfl|exact zbc AV.bool zP|exact kP r (eL e q j)|exact kO (eL e q j))
 . have a : ∃ y, (k, y) ∈ M ∨ (k, y) ∈ N := ⟨x, .inl (hl2 _ hkx)⟩
   obtain⟨bx,lx,rfl⟩:=hv (k,x) (hl2 _ hkx);obtain⟨ba,la,I⟩:=L k;obtain⟨bb,lb,J⟩:=O k;obtain⟨bg,lg,z⟩:=j k;have o:=A k a;have p:=C k a;have d:=B k a;have f:=u k a;rw[I] at o d f;rw[J] at p d;rw[z] at d f;have r:=se (g:=g) eJ hl2 hkx;rw[z] at r;have s:∀v,gq (eu (dj [] (dM M l g)) k v) k=some v:=fun v=>wY (kq eJ)
   refine zg ?_
   repeat' ((first|(refine zb ?_ ?_<;>(intro h))|(refine zh rfl o ?_;rintro _ rfl)|(refine zh rfl p ?_;rintro _ rfl)|(refine zh rfl d ?_;rintro _ rfl)|(refine zh rfl f ?_;rintro _ rfl)|rw[s,Iz])<;>refine zg ?_)
   all_goals refine⟨rfl,rfl,rfl,?_⟩
   all_goals conv=>whnf
   all_goals (repeat' first|exact True.intro|apply And.intro|rfl|exact zbc AV.bool zP|exact kP r (eL eJ gy j)|exact kO (eL eJ gy j))
theorem xJ (M N:List (Int×AV))(hM:cu M)(hN:cu N)(b c:Bool)(l m:List Int)(g C ob:Int->AV)(s:Int->Bool)(I:Bool)(G:List Int)
 (h0:af 167 [.agg (au b l),.agg (au c m)] (fun f=>f = .ret (.agg (au I G))))(h1:af 168 [.agg (au I G),.agg (au b l)] (fun f=>f = .ret (.bool false)))
 (i:∀k,ju (g k))(L:∀k,ju (C k))(O:∀k,ju (ob k))(hv:gB M)(hw:gB N)
 (t:∀k,(∃x,(k,x)∈M∨(k,x)∈N)->af 65 [bJ M b l,i64 k] (fun f=>f = .ret (C k)))(z:∀k,(∃x,(k,x)∈M∨(k,x)∈N)->af 65 [bJ N c m,i64 k] (fun f=>f = .ret (ob k)))
 (B:∀k,(∃x,(k,x)∈M∨(k,x)∈N)->af 167 [C k,ob k] (fun f=>f = .ret (g k)))(u:∀k,(∃x,(k,x)∈M∨(k,x)∈N)->af 168 [g k,C k] (fun f=>f = .ret (.bool (s k)))) :
 af 114 [bJ M b l,bJ N c m] (fun f=>f = .ret (.ao [bJ (dj (dj [] (dM M [] g)) (dM N [] g)) I G,.bool (dz (dz true (fun k=>!s k) M []) (fun k=>!s k) N [])])):=by
 have e:cu (dj [] (dM M [] g)):=kq eJ;have j:gB (dj [] (dM M [] g)):=eL eJ gy i;have A:wr IntKind.i64 (0+1)=1:=aE aa aa;have hw2:wr IntKind.i64 (wr IntKind.i64 (0+1)+1)=2:=by rw[A];exact aE aa aa
 refine zw func114 ?_;refine zg ?_
 repeat' ((first|(refine DC.pure rfl (h0) ?_;rintro _ rfl)|(refine DC.pure rfl (h1) ?_;rintro _ rfl))<;>refine zg ?_)
 refine DW.rounds aC aD 3 ?_
 conv=>whnf
 refine zg ?_
 repeat' ((first|(refine zp ?_ ?_<;>first|exact⟨⟩|intro h)|refine zo ?_)<;>refine zg ?_)
 refine DW.si aC aD M 30 33 34 35 [2,3,4,5,6,9,28,29,30,31,32,33] [4] 200 (fun l=>[(7,.bool (dz true (fun k=>!s k) M l))]) (fun l=>[(4,.mp (dj [] (dM M l g)))]) [] hM rfl rfl rfl rfl rfl rfl rfl rfl rfl rfl ?_
 conv=>whnf
 refine⟨?_,fun l=>?_,?_,fun l H hl2 k x hkx=>?_⟩
 . conv => whnf
   (repeat' first|exact True.intro|apply And.intro|rfl|exact zbc AV.bool xC.symm|exact kP (by first|rfl|exact(zbc (dj []) rG).symm) (eL eJ gy i)|exact kO (eL eJ gy i))
 . conv => whnf
   rfl
 . refine zk ?_
   repeat' ((first|(refine az.mk _ (by rw[A];rfl) ?_)|(refine zp ?_ ?_<;>first|exact⟨⟩|intro h))<;>refine zk ?_)
   refine DW.si aC aD N 239 33 34 35 [2,3,4,5,6,9,28,29,30,31,32,33] [4] 200 (fun l=>[(7,.bool (dz (dz true (fun k=>!s k) M []) (fun k=>!s k) N l))]) (fun l=>[(4,.mp (dj (dj [] (dM M [] g)) (dM N l g)))]) [] hN rfl rfl rfl rfl rfl rfl rfl rfl rfl rfl ?_
   conv=>whnf
   refine⟨?_,fun l=>?_,?_,fun l H hl2 k x hkx=>?_⟩
   . conv => whnf
     (repeat' first|exact True.intro|apply And.intro|rfl|exact zbc AV.bool xC.symm|exact kP (by first|rfl|exact(zbc (dj _) rG).symm) (eL e j i)|exact kO (eL e j i))
   . conv => whnf
     rfl
   . refine zg ?_
     repeat' ((refine zp ?_ ?_<;>first|exact⟨⟩|intro h)<;>refine zg ?_)
     all_goals (generalize F:snap _ 20 _=rr;obtain rfl:=F.symm.trans (Ll (n:=19) (sV (n:=18) (da (y6 (n:=15) rfl (eL e j i)) rfl)) rfl);(conv=>whnf);rfl)
   . have a : ∃ y, (k, y) ∈ M ∨ (k, y) ∈ N := ⟨x, .inr (hl2 _ hkx)⟩
     obtain⟨bx,lx,rfl⟩:=hw (k,x) (hl2 _ hkx);obtain⟨ba,la,J⟩:=L k;obtain⟨bb,lb,E⟩:=O k;obtain⟨bg,lg,w⟩:=i k;have p:=t k a;have q:=z k a;have d:=B k a;have o:=u k a;rw[J] at p d o;rw[E] at q d;rw[w] at d o;have r:=se (g:=g) e hl2 hkx;rw[w] at r;have D:∀v,gq (eu (dj (dj [] (dM M [] g)) (dM N l g)) k v) k=some v:=fun v=>wY (kq e)
     refine zg ?_
     repeat' ((first|(refine zh rfl p ?_;rintro _ rfl)|(refine zh rfl q ?_;rintro _ rfl)|(refine zh rfl d ?_;rintro _ rfl))<;>refine zg ?_)
     all_goals refine⟨rfl,rfl,rfl,?_⟩
     all_goals conv=>whnf
     all_goals (repeat' first|exact True.intro|apply And.intro|rfl|exact zbc AV.bool zP|exact kP r (eL e j i)|exact kO (eL e j i))
 . have a : ∃ y, (k, y) ∈ M ∨ (k, y) ∈ N := ⟨x, .inl (hl2 _ hkx)⟩
   obtain⟨bx,lx,rfl⟩:=hv (k,x) (hl2 _ hkx);obtain⟨ba,la,J⟩:=L k;obtain⟨bb,lb,E⟩:=O k;obtain⟨bg,lg,w⟩:=i k;have p:=t k a;have q:=z k a;have d:=B k a;have o:=u k a;rw[J] at p d o;rw[E] at q d;rw[w] at d o;have r:=se (g:=g) eJ hl2 hkx;rw[w] at r;have D:∀v,gq (eu (dj [] (dM M l g)) k v) k=some v:=fun v=>wY (kq eJ)
   refine zg ?_
   repeat' ((first|(refine zh rfl p ?_;rintro _ rfl)|(refine zh rfl q ?_;rintro _ rfl)|(refine zh rfl d ?_;rintro _ rfl))<;>refine zg ?_)
   all_goals refine⟨rfl,rfl,rfl,?_⟩
   all_goals conv=>whnf
   all_goals (repeat' first|exact True.intro|apply And.intro|rfl|exact zbc AV.bool zP|exact kP r (eL eJ gy i)|exact kO (eL eJ gy i))
end Go.Ago
namespace Go.Ago
open Go.Proofs List Nat Tryz
def dD:AV := .agg [.ak 7 [[.str [77,65,73,78],i64 (-1),i64 0,i64 16,.ai,.ai,.ai]],i64 0,.ai,.ak 2 [[.str [83,89,83,80,82,73,78,84],i64 2]],.ai,.ai,.ak 2 [[i64 3,.ak 29 [[i64 1,i64 (-1),i64 (-1),i64 (-1),i64 0,i64 0,i64 0,.bool false,.str [],i64 0,i64 0,i64 0,.bool false,.str [],i64 0,i64 0,i64 0,.bool false,.str [],i64 10,i64 0,i64 0,i64 0,.str [],.ai,.ai,.ai,.bool false,.bool false],[i64 2,i64 0,i64 (-1),i64 (-1),i64 2,i64 15,i64 0,.bool false,.str [],i64 0,i64 0,i64 0,.bool false,.str [],i64 0,i64 0,i64 0,.bool false,.str [],i64 0,i64 0,i64 0,i64 7,.str [],.ai,.ai,.ai,.bool false,.bool false],[i64 4,i64 1,i64 (-1),i64 (-1),i64 0,i64 0,i64 0,.bool false,.str [],i64 0,i64 0,i64 0,.bool false,.str [],i64 0,i64 0,i64 0,.bool false,.str [],i64 1,i64 0,i64 0,i64 0,.str [],.ai,.ai,.ai,.bool false,.bool false],[i64 9,i64 (-1),i64 1,i64 0,i64 2,i64 15,i64 0,.bool false,.str [],i64 0,i64 0,i64 0,.bool false,.str [],i64 0,i64 0,i64 0,.bool false,.str [],i64 0,i64 0,i64 0,i64 0,.str [],.ai,.ai,.ai,.bool false,.bool false],[i64 1,i64 (-1),i64 (-1),i64 (-1),i64 0,i64 0,i64 0,.bool false,.str [],i64 0,i64 0,i64 0,.bool false,.str [],i64 0,i64 0,i64 0,.bool false,.str [],i64 20,i64 0,i64 0,i64 0,.str [],.ai,.ai,.ai,.bool false,.bool false],[i64 8,i64 2,i64 1,i64 (-1),i64 2,i64 15,i64 0,.bool false,.str [],i64 0,i64 0,i64 0,.bool false,.str [],i64 0,i64 0,i64 0,.bool false,.str [],i64 0,i64 0,i64 0,i64 0,.str [],.ai,.ai,.ai,.bool false,.bool false],[i64 27,i64 (-1),i64 (-1),i64 (-1),i64 0,i64 0,i64 0,.bool false,.str [],i64 0,i64 0,i64 0,.bool false,.str [],i64 0,i64 0,i64 0,.bool false,.str [],i64 0,i64 0,i64 0,i64 0,.str [],.ai,.ak 1 [[i64 2]],.ak 5 [[i64 2,i64 15,i64 0,.bool false,.str []]],.bool false,.bool false]]]]]
theorem Ym:af 20 [] (· = .ret dD):=uO (T:=[]) (n:=40) (fun _ h=>by cases h) aG
theorem ly:af 14 [dD] (· = .ret (i64 0)):=uO (T:=[]) (n:=40) (fun _ h=>by cases h) aG
end Go.Ago
