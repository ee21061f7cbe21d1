/-
  Part A45: lemmas, each with its own conditions.
-/
import Derived.Test.YthaolifcglpkdaaGreatDoorA44
set_option maxRecDepth 100000
set_option maxHeartbeats 0
set_option linter.all false
namespace Go.Ago
open Go.Proofs List Nat
def iC {α:Type}(f:α->α->Bool):List α->List α->Bool
 | [],[]=>true
 | x :: xs, y :: ys => match f x y with
   | true=>iC f xs ys
   | false=>false
 | _,_=>false
theorem m_ {α:Type}{f:α->α->Bool}(hf:∀x y,f x y=true->x=y):∀{xs ys:List α},iC f xs ys=true->xs=ys
 | [],[],_=>rfl
 | x :: xs, y :: ys, h => by
   simp only[iC] at h;cases hx:f x y with
   | true=>rw[hx] at h;rw[hf x y hx,m_ hf h]
   | false=>rw[hx] at h;cases h
 | [],_::_,h=>by cases h
 | _::_,[],h=>by cases h
def wK:Int->Int->Bool
 | .ofNat a,.ofNat b=>beq a b
 | .negSucc a,.negSucc b=>beq a b
 | _,_=>false
theorem Gj {a b:Int}(h:wK a b=true):a=b:=by
 cases a<;>cases b<;>first|(rw[eq_of_beq_eq_true h])|cases h
def AV.lB:Nat->AV->AV->Bool
 | 0,_,_=>false
 | n + 1, x, y => match x, y with
   | .bool a, .bool b => match a, b with
     | true,true=>true
     | false,false=>true
     | _,_=>false
   | .int k a, .int k' b => match decide (k = k') with
     | true=>wK a b
     | false=>false
   | .str a,.str b=>iC (fun u v=>beq u.toNat v.toNat) a b
   | .ah,.ah=>true
   | .dF,.dF=>true
   | .cZ,.cZ=>true
   | .ak s es, .ak s' es' => match beq s s' with
     | true=>iC (iC (AV.lB n)) es es'
     | false=>false
   | .bq cs,.bq cs'=>iC (AV.lB n) cs cs'
   | .agg cs,.agg cs'=>iC (AV.lB n) cs cs'
   | .ao cs,.ao cs'=>iC (AV.lB n) cs cs'
   | .cK es, .cK es' => iC (fun p q => match wK p.1 q.1 with
     | true=>AV.lB n p.2 q.2
     | false=>false) es es'
   | _,_=>false
theorem AV.Gk:∀{n:Nat} {x y:AV},AV.lB n x y=true->x=y
 | 0,_,_,h=>by cases h
 | n + 1, x, y, h => by
   have ih:∀x y,AV.lB n x y=true->x=y:=fun x y h=>AV.Gk h
   cases x<;>cases y<;>first|(cases h;done)|rfl|skip
   case bool a b=>cases a<;>cases b<;>first|rfl|cases h
   case int k a k' b=>
    simp only[AV.lB] at h
    by_cases hk:k=k'
    . subst hk;rw[decide_eq_true rfl] at h;rw[Gj h]
    . rw[decide_eq_false hk] at h;cases h
   case str a b=>rw[m_ (fun u v h=>UInt8.toNat_inj.1 (eq_of_beq_eq_true h)) (h:iC _ a b=true)]
   case ak s es s' es'=>
    simp only[AV.lB] at h;cases hs:beq s s' with
    | true=>rw[hs] at h;rw[eq_of_beq_eq_true hs,m_ (fun x y h=>m_ ih h) h]
    | false=>rw[hs] at h;cases h
   case bq a b=>rw[m_ ih (h:iC _ a b=true)]
   case agg a b=>rw[m_ ih (h:iC _ a b=true)]
   case ao a b=>rw[m_ ih (h:iC _ a b=true)]
   case cK a b=>
    rw[m_ (fun p q h=>?_) (h:iC _ a b=true)]
    obtain⟨p1,p2⟩:=p;obtain⟨q1,q2⟩:=q;dsimp only at h;cases hp:wK p1 q1 with
    | true=>rw[hp] at h;rw[Gj hp,ih _ _ h]
    | false=>rw[hp] at h;cases h
abbrev j4:=Nat×List AV×AV
def vh (T:List j4)(g:Nat)(args:List AV):Option AV:=
 match T with
 | []=>none
 | (g', bs, v) :: T => match beq g g' && iC (AV.lB 30) args bs with
   | true=>some v
   | false=>vh T g args
theorem DH:∀{T:List j4} {g:Nat} {args:List AV} {v:AV},(∀r∈T,af r.1 r.2.1 (· = .ret r.2.2))->vh T g args=some v->af g args (· = .ret v)
 | [],_,_,_,_,h=>by cases h
 | (g', bs, u) :: T, g, args, v, hT, h => by
   simp only[vh] at h;cases hc:beq g g' && iC (AV.lB 30) args bs with
   | true =>
     rw[hc] at h;cases h;simp only[Bool.and_eq_true] at hc;have e1:=eq_of_beq_eq_true hc.1;have e2:=m_ (fun _ _ h=>AV.Gk h) hc.2
     subst e1;subst e2;exact hT _ mem_cons_self
   | false=>rw[hc] at h;exact DH (fun r hr=>hT r (mem_cons_of_mem _ hr)) h
def DF (T:List j4)(g:Nat):Bool:=
 match T with
 | []=>false
 | (g', _, _) :: T => match beq g g' with
   | true=>true
   | false=>DF T g
def wB:List AV->Option AV
 | [.str s,.str [c]]=>some (.bool (rC s c))
 | _=>none
def DZ:List AV->Option Ty
 | [.int .i64 k,.int .i64 p,.int .i64 q,.bool v,.str s]=>if h:s.length<281474976710656 then some ⟨k,p,q,v,s,h⟩ else none
 | _=>none
theorem ZN {r:List AV}{t:Ty}(h:DZ r=some t):r=t.cells:=by
 unfold DZ at h;split at h
 . split at h
   . cases h;rfl
   . cases h
 . cases h
def BT:List AV->Option Int
 | [.int .i64 k]=>some k
 | _=>none
theorem S_ {r:List AV}{t:Int}(h:BT r=some t):r=[i64 t]:=by
 unfold BT at h;split at h
 . cases h;rfl
 . cases h
def yw {α:Type}(s:Nat)(f:List AV->Option α):AV->Option (List α)
 | .ah=>some []
 | .ak s' es => match beq s s' with
   | true=>aM f es
   | false=>none
 | _=>none
theorem Kb {α:Type}{s:Nat}{f:List AV->Option α}{g:α->List AV}(hf:∀r t,f r=some t->r=g t){x:AV}{l:List α}(h:yw s f x=some l):fX x (.ak s (l.map g)):=by
 unfold yw at h;split at h
 . cases h;exact .n
 . rename_i s' es
   cases hs:beq s s' with
   | true =>
     rw[hs] at h;have:=eq_of_beq_eq_true hs;subst this;have key:∀{es:List (List AV)} {l:List α},aM f es=some l->es=l.map g:=by
      intro es
      induction es with
      | nil=>intro l h;simp only[aM,Option.some.injEq] at h;subst h;rfl
      | cons e es ih =>
        intro l h;simp only[aM] at h;cases he:f e with
        | none=>rw[he] at h;cases h
        | some y =>
          rw[he] at h;dsimp only at h;cases hr:aM f es with
          | none=>rw[hr] at h;cases h
          | some ys=>rw[hr] at h;cases h;rw[map_cons,ih hr,hf _ _ he]
     rw[key h];exact .r
   | false=>rw[hs] at h;cases h
 . cases h
def xg:List AV->Option Ins
 | [.int .i64 op,.int .i64 d,.int .i64 a,.int .i64 b,.int .i64 tk,.int .i64 tp,.int .i64 tq,.bool tv,.str ts,.int .i64 uk,.int .i64 up,.int .i64 uq,.bool uv,.str us,.int .i64 wk,.int .i64 wp,.int .i64 wq,.bool wv,.str ws,
  .int .i64 n,.int .i64 m,.int .i64 p,.int .i64 vn,.str vs,.ah,l,y,.bool sz,.bool rg]=>match yw 1 BT l,yw 5 DZ y with
  | some ll,some yy=>if h:ts.length<281474976710656∧us.length<281474976710656∧ws.length<281474976710656∧vs.length<281474976710656∧ll.length<281474976710656∧yy.length<281474976710656 then
   some ⟨op,d,a,b,⟨tk,tp,tq,tv,ts,h.1⟩,⟨uk,up,uq,uv,us,h.2.1⟩,⟨wk,wp,wq,wv,ws,h.2.2.1⟩,n,m,p,⟨vn,vs,h.2.2.2.1⟩,⟨[],ab⟩,⟨ll,h.2.2.2.2.1⟩,⟨yy,h.2.2.2.2.2⟩,sz,rg⟩ else none
  | _,_=>none
 | _=>none
theorem Th {cs:List AV}{i:Ins}(h:xg cs=some i):gm fX cs i.cells:=by
 unfold xg at h;split at h
 . split at h
   . rename_i ll yy hl hy
     split at h
     . cases h
       exact⟨.r,.r,.r,.r,.r,.r,.r,.r,.r,.r,.r,.r,.r,.r,.r,.r,.r,.r,.r,.r,.r,.r,.r,.r,.n,Kb (fun _ _ h=>S_ h) hl,Kb (fun _ _ h=>ZN h) hy,.r,.r,trivial⟩
     . cases h
   . cases h
 . cases h
theorem DP.lr {P:Program}{E:Env}{g:FuncId}{args args2:List AV}{Q:AE->Prop}(hx:gm n4 args args2)(h:DP P E g args2 Q):DP P E g args Q:=by
 obtain⟨ae,⟨h0,h1⟩,h2⟩:=h;exact⟨ae,⟨h0,fun c w vs hf hw hr=>h1 c w vs hf hw (qs (fun _ _ _ a b=>n4.rel a b) hx hr)⟩,h2⟩
theorem FX {args:List AV}{v:AV}(h:wB args=some v):af 138 args (· = .ret v):=by
 unfold wB at h;split at h
 . cases h;exact pR _ _
 . cases h
def xn (T:List j4)(g:Nat):Option (List AV->Option AV):=
 match beq g 138 with
 | true=>some wB
 | false => match DF T g with
   | true=>some (vh T g)
   | false=>none
theorem Ub {T:List j4}(hT:∀r∈T,af r.1 r.2.1 (· = .ret r.2.2)):zM (xn T):=by
 intro g U args v h hv;unfold xn at h;split at h
 . rename_i e;cases h;rw[eq_of_beq_eq_true e];exact FX hv
 . split at h
   . cases h;exact DH hT hv
   . cases h
theorem uH {T:List j4}(hT:∀r∈T,af r.1 r.2.1 (· = .ret r.2.2)){n:Nat}{g:FuncId}{args:List AV}{v:AV}(h:(wM (xn T) n).P g args (fun ae=>ae = .ret v)=(AE.ret v=AE.ret v)):af g args (· = .ret v):=Gp (Ub hT) h
def CN (T:List (Int×Bool×List Int))(k:Int):Bool×List Int:=match T with
 | []=>(false,[])
 | (a, b) :: T => match decide (a = k) with
   | true=>b
   | false=>CN T k
def fE (T:List (Int×Bool×List Int))(k:Int):AV := .agg (aq (CN T k).1 (CN T k).2)
theorem fP (T:List (Int×Bool×List Int))(k:Int):jr (fE T k):=⟨_,_,rfl⟩
def oP (T:List (Int×Bool))(k:Int):Bool:=match T with
 | []=>false
 | (a, b) :: T => match decide (a = k) with
   | true=>b
   | false=>oP T k
theorem DP.dj {g:FuncId}{args:List AV}{v:AV}(h:(wM (xn []) 40).P g args (fun ae=>ae = .ret v)=(AE.ret v=AE.ret v)):af g args (fun ae=>ae = .ret v):=uH (T:=[]) (n:=40) (fun _ h=>by cases h) h
theorem DP.VL {g:FuncId}{args:List AV}{b:Bool}(h:af g args (fun ae=>ae = .ret (.agg [.bool b,.ah]))):af g args (fun ae=>ae = .ret (.agg (aq b []))):=
 h.oI fun _ e=>⟨_,.agg (aq b []),e,.inl (.inr ⟨_,_,rfl,rfl,.r,.n,trivial⟩),rfl⟩
theorem OT:af 167 [.agg (aq true []),.agg (aq true [])] (fun ae=>ae = .ret (.agg (aq true []))):=DP.VL (DP.dj aG)
theorem OY:af 168 [.agg (aq true []),.agg (aq true [])] (fun ae=>ae = .ret (.bool true)):=DP.dj aG
theorem O6:af 167 [.agg (aq true []),.agg (aq true [0])] (fun ae=>ae = .ret (.agg (aq true [0]))):=DP.dj aG
theorem Pg:af 168 [.agg (aq true [0]),.agg (aq true [])] (fun ae=>ae = .ret (.bool false)):=DP.dj aG
theorem Ay:af 65 [bE [] true [],i64 0] (fun ae=>ae = .ret (.agg (aq true []))):=DP.dj aG
theorem Az:af 65 [bE [(0,.agg (aq false [0]))] true [0],i64 0] (fun ae=>ae = .ret (.agg (aq false [0]))):=DP.dj aG
theorem Fc:af 167 [.agg (aq true []),.agg (aq false [0])] (fun ae=>ae = .ret (.agg (aq false [0]))):=DP.dj aG
theorem Fe:af 168 [.agg (aq false [0]),.agg (aq true [])] (fun ae=>ae = .ret (.bool false)):=DP.dj aG
theorem Ph:af 167 [.agg (aq true []),.agg (aq true [0,1])] (fun ae=>ae = .ret (.agg (aq true [0,1]))):=DP.dj aG
theorem Pj:af 168 [.agg (aq true [0,1]),.agg (aq true [])] (fun ae=>ae = .ret (.bool false)):=DP.dj aG
theorem Au:af 65 [bE [(0,.agg (aq false [0])),(1,.agg (aq false [1]))] true [0,1],i64 0] (fun ae=>ae = .ret (.agg (aq false [0]))):=DP.dj aG
theorem E6:af 65 [bE [] true [],i64 1] (fun ae=>ae = .ret (.agg (aq true []))):=DP.dj aG
theorem Av:af 65 [bE [(0,.agg (aq false [0])),(1,.agg (aq false [1]))] true [0,1],i64 1] (fun ae=>ae = .ret (.agg (aq false [1]))):=DP.dj aG
theorem E7:af 167 [.agg (aq true []),.agg (aq false [1])] (fun ae=>ae = .ret (.agg (aq false [1]))):=DP.dj aG
theorem E8:af 168 [.agg (aq false [1]),.agg (aq true [])] (fun ae=>ae = .ret (.bool false)):=DP.dj aG
theorem OU:af 167 [.agg (aq true []),.agg (aq true [0,1,2])] (fun ae=>ae = .ret (.agg (aq true [0,1,2]))):=DP.dj aG
theorem OV:af 168 [.agg (aq true [0,1,2]),.agg (aq true [])] (fun ae=>ae = .ret (.bool false)):=DP.dj aG
theorem Aw:af 65 [bE [(0,.agg (aq false [2])),(1,.agg (aq false [1]))] true [0,1,2],i64 0] (fun ae=>ae = .ret (.agg (aq false [2]))):=DP.dj aG
theorem OW:af 167 [.agg (aq true []),.agg (aq false [2])] (fun ae=>ae = .ret (.agg (aq false [2]))):=DP.dj aG
theorem OX:af 168 [.agg (aq false [2]),.agg (aq true [])] (fun ae=>ae = .ret (.bool false)):=DP.dj aG
theorem Ax:af 65 [bE [(0,.agg (aq false [2])),(1,.agg (aq false [1]))] true [0,1,2],i64 1] (fun ae=>ae = .ret (.agg (aq false [1]))):=DP.dj aG
theorem OZ:af 167 [.agg (aq true [0]),.agg (aq true [0])] (fun ae=>ae = .ret (.agg (aq true [0]))):=DP.dj aG
theorem O0:af 168 [.agg (aq true [0]),.agg (aq true [0])] (fun ae=>ae = .ret (.bool true)):=DP.dj aG
theorem E9:af 167 [.agg (aq false [0]),.agg (aq false [0])] (fun ae=>ae = .ret (.agg (aq false [0]))):=DP.dj aG
theorem E_:af 168 [.agg (aq false [0]),.agg (aq false [0])] (fun ae=>ae = .ret (.bool true)):=DP.dj aG
theorem O3:af 167 [.agg (aq true [0,1]),.agg (aq true [0,1])] (fun ae=>ae = .ret (.agg (aq true [0,1]))):=DP.dj aG
theorem O4:af 168 [.agg (aq true [0,1]),.agg (aq true [0,1])] (fun ae=>ae = .ret (.bool true)):=DP.dj aG
theorem Fa:af 167 [.agg (aq false [1]),.agg (aq false [1])] (fun ae=>ae = .ret (.agg (aq false [1]))):=DP.dj aG
theorem Fb:af 168 [.agg (aq false [1]),.agg (aq false [1])] (fun ae=>ae = .ret (.bool true)):=DP.dj aG
theorem O5:af 167 [.agg (aq true [0,1,2]),.agg (aq true [0,1,2])] (fun ae=>ae = .ret (.agg (aq true [0,1,2]))):=DP.dj aG
theorem O7:af 168 [.agg (aq true [0,1,2]),.agg (aq true [0,1,2])] (fun ae=>ae = .ret (.bool true)):=DP.dj aG
theorem O8:af 167 [.agg (aq false [2]),.agg (aq false [2])] (fun ae=>ae = .ret (.agg (aq false [2]))):=DP.dj aG
theorem O9:af 168 [.agg (aq false [2]),.agg (aq false [2])] (fun ae=>ae = .ret (.bool true)):=DP.dj aG
theorem O_:af 170 [.agg [.bool true,.ah],i64 0] (fun ae=>ae = .ret (.agg (aq true [0]))):=DP.dj aG
theorem Pb:af 170 [.agg (aq true [0]),i64 1] (fun ae=>ae = .ret (.agg (aq true [0,1]))):=DP.dj aG
theorem Pc:af 170 [.agg (aq false [0]),i64 1] (fun ae=>ae = .ret (.agg (aq false [0]))):=DP.dj aG
theorem Pd:af 170 [.agg (aq true [0,1]),i64 2] (fun ae=>ae = .ret (.agg (aq true [0,1,2]))):=DP.dj aG
theorem Pe:af 170 [.agg (aq false [0]),i64 2] (fun ae=>ae = .ret (.agg (aq false [0]))):=DP.dj aG
theorem Pf:af 170 [.agg (aq false [1]),i64 2] (fun ae=>ae = .ret (.agg (aq false [1]))):=DP.dj aG
theorem U2:af 114 [.agg [.cK [],.bool true,.ah],.agg [.cK [],.bool true,.ah]] (· = .ret (.ao [bE [] true [],.bool false])):=by
 refine DP.lr (args2:=[bE [] true [],bE [] true []]) ⟨.inl (.inr ⟨_,_,rfl,rfl,.r,.r,.n,trivial⟩),.inl (.inr ⟨_,_,rfl,rfl,.r,.r,.n,trivial⟩),trivial⟩ ?_;refine (uM [] [] ir ir _ _ _ _ (fE []) (fE []) (fE []) (oP []) true [] OT OY
  (fP _) (fP _) (fP _) (fun p hp=>by first|(simp at hp;done)|(simp at hp;rcases hp with rfl|rfl<;>exact⟨_,_,rfl⟩)|(simp at hp;subst hp;exact⟨_,_,rfl⟩)) (fun p hp=>by first|(simp at hp;done)|(simp at hp;rcases hp with rfl|rfl<;>exact⟨_,_,rfl⟩)|(simp at hp;subst hp;exact⟨_,_,rfl⟩))
  (fun k hk=>by obtain⟨x,h⟩:=hk;simp at h)
  (fun k hk=>by obtain⟨x,h⟩:=hk;simp at h)
  (fun k hk=>by obtain⟨x,h⟩:=hk;simp at h)
  (fun k hk=>by obtain⟨x,h⟩:=hk;simp at h)).mono fun ae h=>h.trans ?_
 kernel_rfl
theorem U3:af 114 [.agg [.cK [],.bool true,.ah],bE [(0,.agg (aq false [0]))] true [0]] (· = .ret (.ao [bE [(0,.agg (aq false [0]))] true [0],.bool true])):=by
 refine DP.lr (args2:=[bE [] true [],bE [(0,.agg (aq false [0]))] true [0]]) ⟨.inl (.inr ⟨_,_,rfl,rfl,.r,.r,.n,trivial⟩),.inl .r,trivial⟩ ?_;refine (xy [] [(0,.agg (aq false [0]))] ir ir _ _ _ _ (fE [(0,false,[0])]) (fE [(0,true,[])]) (fE [(0,false,[0])]) (oP [(0,false)]) true [0] O6 Pg
  (fP _) (fP _) (fP _) (fun p hp=>by first|(simp at hp;done)|(simp at hp;rcases hp with rfl|rfl<;>exact⟨_,_,rfl⟩)|(simp at hp;subst hp;exact⟨_,_,rfl⟩)) (fun p hp=>by first|(simp at hp;done)|(simp at hp;rcases hp with rfl|rfl<;>exact⟨_,_,rfl⟩)|(simp at hp;subst hp;exact⟨_,_,rfl⟩))
  (fun k hk=>by
    have hk:k=0:=by obtain⟨x,h⟩:=hk;simp at h;omega
    rcases hk with rfl
    . exact Ay)
  (fun k hk=>by
    have hk:k=0:=by obtain⟨x,h⟩:=hk;simp at h;omega
    rcases hk with rfl
    . exact Az)
  (fun k hk=>by
    have hk:k=0:=by obtain⟨x,h⟩:=hk;simp at h;omega
    rcases hk with rfl
    . exact Fc)
  (fun k hk=>by
    have hk:k=0:=by obtain⟨x,h⟩:=hk;simp at h;omega
    rcases hk with rfl
    . exact Fe)).mono fun ae h=>h.trans ?_
 kernel_rfl
theorem U4:af 114 [.agg [.cK [],.bool true,.ah],bE [(0,.agg (aq false [0])),(1,.agg (aq false [1]))] true [0,1]] (· = .ret (.ao [bE [(0,.agg (aq false [0])),(1,.agg (aq false [1]))] true [0,1],.bool true])):=by
 refine DP.lr (args2:=[bE [] true [],bE [(0,.agg (aq false [0])),(1,.agg (aq false [1]))] true [0,1]]) ⟨.inl (.inr ⟨_,_,rfl,rfl,.r,.r,.n,trivial⟩),.inl .r,trivial⟩ ?_;refine (xy [] [(0,.agg (aq false [0])),(1,.agg (aq false [1]))] ir ir _ _ _ _ (fE [(0,false,[0]),(1,false,[1])]) (fE [(0,true,[]),(1,true,[])]) (fE [(0,false,[0]),(1,false,[1])]) (oP [(0,false),(1,false)]) true [0,1] Ph Pj
  (fP _) (fP _) (fP _) (fun p hp=>by first|(simp at hp;done)|(simp at hp;rcases hp with rfl|rfl<;>exact⟨_,_,rfl⟩)|(simp at hp;subst hp;exact⟨_,_,rfl⟩)) (fun p hp=>by first|(simp at hp;done)|(simp at hp;rcases hp with rfl|rfl<;>exact⟨_,_,rfl⟩)|(simp at hp;subst hp;exact⟨_,_,rfl⟩))
  (fun k hk=>by
    have hk:k=0∨k=1:=by obtain⟨x,h⟩:=hk;simp at h;omega
    rcases hk with rfl|rfl
    . exact Ay
    . exact E6)
  (fun k hk=>by
    have hk:k=0∨k=1:=by obtain⟨x,h⟩:=hk;simp at h;omega
    rcases hk with rfl|rfl
    . exact Au
    . exact Av)
  (fun k hk=>by
    have hk:k=0∨k=1:=by obtain⟨x,h⟩:=hk;simp at h;omega
    rcases hk with rfl|rfl
    . exact Fc
    . exact E7)
  (fun k hk=>by
    have hk:k=0∨k=1:=by obtain⟨x,h⟩:=hk;simp at h;omega
    rcases hk with rfl|rfl
    . exact Fe
    . exact E8)).mono fun ae h=>h.trans ?_
 kernel_rfl
theorem U5:af 114 [.agg [.cK [],.bool true,.ah],bE [(0,.agg (aq false [2])),(1,.agg (aq false [1]))] true [0,1,2]] (· = .ret (.ao [bE [(0,.agg (aq false [2])),(1,.agg (aq false [1]))] true [0,1,2],.bool true])):=by
 refine DP.lr (args2:=[bE [] true [],bE [(0,.agg (aq false [2])),(1,.agg (aq false [1]))] true [0,1,2]]) ⟨.inl (.inr ⟨_,_,rfl,rfl,.r,.r,.n,trivial⟩),.inl .r,trivial⟩ ?_;refine (xy [] [(0,.agg (aq false [2])),(1,.agg (aq false [1]))] ir ir _ _ _ _ (fE [(0,false,[2]),(1,false,[1])]) (fE [(0,true,[]),(1,true,[])]) (fE [(0,false,[2]),(1,false,[1])]) (oP [(0,false),(1,false)]) true [0,1,2] OU OV
  (fP _) (fP _) (fP _) (fun p hp=>by first|(simp at hp;done)|(simp at hp;rcases hp with rfl|rfl<;>exact⟨_,_,rfl⟩)|(simp at hp;subst hp;exact⟨_,_,rfl⟩)) (fun p hp=>by first|(simp at hp;done)|(simp at hp;rcases hp with rfl|rfl<;>exact⟨_,_,rfl⟩)|(simp at hp;subst hp;exact⟨_,_,rfl⟩))
  (fun k hk=>by
    have hk:k=0∨k=1:=by obtain⟨x,h⟩:=hk;simp at h;omega
    rcases hk with rfl|rfl
    . exact Ay
    . exact E6)
  (fun k hk=>by
    have hk:k=0∨k=1:=by obtain⟨x,h⟩:=hk;simp at h;omega
    rcases hk with rfl|rfl
    . exact Aw
    . exact Ax)
  (fun k hk=>by
    have hk:k=0∨k=1:=by obtain⟨x,h⟩:=hk;simp at h;omega
    rcases hk with rfl|rfl
    . exact OW
    . exact E7)
  (fun k hk=>by
    have hk:k=0∨k=1:=by obtain⟨x,h⟩:=hk;simp at h;omega
    rcases hk with rfl|rfl
    . exact OX
    . exact E8)).mono fun ae h=>h.trans ?_
 kernel_rfl
theorem U6:af 114 [bE [(0,.agg (aq false [0]))] true [0],bE [(0,.agg (aq false [0]))] true [0]] (· = .ret (.ao [bE [(0,.agg (aq false [0]))] true [0],.bool false])):=by
 refine DP.lr (args2:=[bE [(0,.agg (aq false [0]))] true [0],bE [(0,.agg (aq false [0]))] true [0]]) ⟨.inl .r,.inl .r,trivial⟩ ?_;refine (uM [(0,.agg (aq false [0]))] [(0,.agg (aq false [0]))] ir ir _ _ _ _ (fE [(0,false,[0])]) (fE [(0,false,[0])]) (fE [(0,false,[0])]) (oP [(0,true)]) true [0] OZ O0
  (fP _) (fP _) (fP _) (fun p hp=>by first|(simp at hp;done)|(simp at hp;rcases hp with rfl|rfl<;>exact⟨_,_,rfl⟩)|(simp at hp;subst hp;exact⟨_,_,rfl⟩)) (fun p hp=>by first|(simp at hp;done)|(simp at hp;rcases hp with rfl|rfl<;>exact⟨_,_,rfl⟩)|(simp at hp;subst hp;exact⟨_,_,rfl⟩))
  (fun k hk=>by
    have hk:k=0:=by obtain⟨x,h⟩:=hk;simp at h;omega
    rcases hk with rfl
    . exact Az)
  (fun k hk=>by
    have hk:k=0:=by obtain⟨x,h⟩:=hk;simp at h;omega
    rcases hk with rfl
    . exact Az)
  (fun k hk=>by
    have hk:k=0:=by obtain⟨x,h⟩:=hk;simp at h;omega
    rcases hk with rfl
    . exact E9)
  (fun k hk=>by
    have hk:k=0:=by obtain⟨x,h⟩:=hk;simp at h;omega
    rcases hk with rfl
    . exact E_)).mono fun ae h=>h.trans ?_
 kernel_rfl
theorem U7:af 114 [bE [(0,.agg (aq false [0])),(1,.agg (aq false [1]))] true [0,1],bE [(0,.agg (aq false [0])),(1,.agg (aq false [1]))] true [0,1]] (· = .ret (.ao [bE [(0,.agg (aq false [0])),(1,.agg (aq false [1]))] true [0,1],.bool false])):=by
 refine DP.lr (args2:=[bE [(0,.agg (aq false [0])),(1,.agg (aq false [1]))] true [0,1],bE [(0,.agg (aq false [0])),(1,.agg (aq false [1]))] true [0,1]]) ⟨.inl .r,.inl .r,trivial⟩ ?_;refine (uM [(0,.agg (aq false [0])),(1,.agg (aq false [1]))] [(0,.agg (aq false [0])),(1,.agg (aq false [1]))] ir ir _ _ _ _ (fE [(0,false,[0]),(1,false,[1])]) (fE [(0,false,[0]),(1,false,[1])]) (fE [(0,false,[0]),(1,false,[1])]) (oP [(0,true),(1,true)]) true [0,1] O3 O4
  (fP _) (fP _) (fP _) (fun p hp=>by first|(simp at hp;done)|(simp at hp;rcases hp with rfl|rfl<;>exact⟨_,_,rfl⟩)|(simp at hp;subst hp;exact⟨_,_,rfl⟩)) (fun p hp=>by first|(simp at hp;done)|(simp at hp;rcases hp with rfl|rfl<;>exact⟨_,_,rfl⟩)|(simp at hp;subst hp;exact⟨_,_,rfl⟩))
  (fun k hk=>by
    have hk:k=0∨k=1:=by obtain⟨x,h⟩:=hk;simp at h;omega
    rcases hk with rfl|rfl
    . exact Au
    . exact Av)
  (fun k hk=>by
    have hk:k=0∨k=1:=by obtain⟨x,h⟩:=hk;simp at h;omega
    rcases hk with rfl|rfl
    . exact Au
    . exact Av)
  (fun k hk=>by
    have hk:k=0∨k=1:=by obtain⟨x,h⟩:=hk;simp at h;omega
    rcases hk with rfl|rfl
    . exact E9
    . exact Fa)
  (fun k hk=>by
    have hk:k=0∨k=1:=by obtain⟨x,h⟩:=hk;simp at h;omega
    rcases hk with rfl|rfl
    . exact E_
    . exact Fb)).mono fun ae h=>h.trans ?_
 kernel_rfl
theorem U8:af 114 [bE [(0,.agg (aq false [2])),(1,.agg (aq false [1]))] true [0,1,2],bE [(0,.agg (aq false [2])),(1,.agg (aq false [1]))] true [0,1,2]] (· = .ret (.ao [bE [(0,.agg (aq false [2])),(1,.agg (aq false [1]))] true [0,1,2],.bool false])):=by
 refine DP.lr (args2:=[bE [(0,.agg (aq false [2])),(1,.agg (aq false [1]))] true [0,1,2],bE [(0,.agg (aq false [2])),(1,.agg (aq false [1]))] true [0,1,2]]) ⟨.inl .r,.inl .r,trivial⟩ ?_;refine (uM [(0,.agg (aq false [2])),(1,.agg (aq false [1]))] [(0,.agg (aq false [2])),(1,.agg (aq false [1]))] ir ir _ _ _ _ (fE [(0,false,[2]),(1,false,[1])]) (fE [(0,false,[2]),(1,false,[1])]) (fE [(0,false,[2]),(1,false,[1])]) (oP [(0,true),(1,true)]) true [0,1,2] O5 O7
  (fP _) (fP _) (fP _) (fun p hp=>by first|(simp at hp;done)|(simp at hp;rcases hp with rfl|rfl<;>exact⟨_,_,rfl⟩)|(simp at hp;subst hp;exact⟨_,_,rfl⟩)) (fun p hp=>by first|(simp at hp;done)|(simp at hp;rcases hp with rfl|rfl<;>exact⟨_,_,rfl⟩)|(simp at hp;subst hp;exact⟨_,_,rfl⟩))
  (fun k hk=>by
    have hk:k=0∨k=1:=by obtain⟨x,h⟩:=hk;simp at h;omega
    rcases hk with rfl|rfl
    . exact Aw
    . exact Ax)
  (fun k hk=>by
    have hk:k=0∨k=1:=by obtain⟨x,h⟩:=hk;simp at h;omega
    rcases hk with rfl|rfl
    . exact Aw
    . exact Ax)
  (fun k hk=>by
    have hk:k=0∨k=1:=by obtain⟨x,h⟩:=hk;simp at h;omega
    rcases hk with rfl|rfl
    . exact O8
    . exact Fa)
  (fun k hk=>by
    have hk:k=0∨k=1:=by obtain⟨x,h⟩:=hk;simp at h;omega
    rcases hk with rfl|rfl
    . exact O9
    . exact Fb)).mono fun ae h=>h.trans ?_
 kernel_rfl
theorem XM:af 116 [.agg [.cK [],.bool true,.ah],i64 0,i64 0] (· = .ret (bE [(0,.agg (aq false [0]))] true [0])):=by
 refine(X6 [] ir _ 0 0 (fE []) true [0] O_ (fun p hp=>by first|(simp at hp;done)|(simp at hp;rcases hp with rfl|rfl<;>exact⟨_,_,rfl⟩)|(simp at hp;subst hp;exact⟨_,_,rfl⟩)) (fP _) (fun k x hk=>by cases hk)).mono fun ae h=>h.trans ?_
 kernel_rfl
theorem XN:af 116 [bE [(0,.agg (aq false [0]))] true [0],i64 1,i64 1] (· = .ret (bE [(0,.agg (aq false [0])),(1,.agg (aq false [1]))] true [0,1])):=by
 refine (Dh [(0, .agg (aq false [0]))] ir _ _ 1 1 (fE [(0, false, [0])]) true [0, 1] Pb (fun p hp => by first | (simp at hp; done) | (simp at hp; rcases hp with rfl | rfl <;> exact ⟨_, _, rfl⟩) | (simp at hp; subst hp; exact ⟨_, _, rfl⟩)) (fP _) (fun k x hk=>by
  simp only[mem_cons,Prod.mk.injEq,not_mem_nil,or_false] at hk;rcases hk with⟨rfl,rfl⟩
  . exact Pc)).mono fun ae h=>h.trans ?_
 kernel_rfl
theorem XO:af 116 [bE [(0,.agg (aq false [0])),(1,.agg (aq false [1]))] true [0,1],i64 2,i64 0] (· = .ret (bE [(0,.agg (aq false [2])),(1,.agg (aq false [1]))] true [0,1,2])):=by
 refine (Dh [(0, .agg (aq false [0])), (1, .agg (aq false [1]))] ir _ _ 2 0 (fE [(0, false, [0]), (1, false, [1])]) true [0, 1, 2] Pd (fun p hp => by first | (simp at hp; done) | (simp at hp; rcases hp with rfl | rfl <;> exact ⟨_, _, rfl⟩) | (simp at hp; subst hp; exact ⟨_, _, rfl⟩)) (fP _) (fun k x hk=>by
  simp only[mem_cons,Prod.mk.injEq,not_mem_nil,or_false] at hk;rcases hk with⟨rfl,rfl⟩|⟨rfl,rfl⟩
  . exact Pe
  . exact Pf)).mono fun ae h=>h.trans ?_
 kernel_rfl
def BQ:List j4:=[(114,[.agg [.cK [],.bool true,.ah],.agg [.cK [],.bool true,.ah]],.ao [bE [] true [],.bool false]),
 (114,[.agg [.cK [],.bool true,.ah],bE [(0,.agg (aq false [0]))] true [0]],.ao [bE [(0,.agg (aq false [0]))] true [0],.bool true]),
 (114,[.agg [.cK [],.bool true,.ah],bE [(0,.agg (aq false [0])),(1,.agg (aq false [1]))] true [0,1]],.ao [bE [(0,.agg (aq false [0])),(1,.agg (aq false [1]))] true [0,1],.bool true]),
 (114,[.agg [.cK [],.bool true,.ah],bE [(0,.agg (aq false [2])),(1,.agg (aq false [1]))] true [0,1,2]],.ao [bE [(0,.agg (aq false [2])),(1,.agg (aq false [1]))] true [0,1,2],.bool true]),
 (114,[bE [(0,.agg (aq false [0]))] true [0],bE [(0,.agg (aq false [0]))] true [0]],.ao [bE [(0,.agg (aq false [0]))] true [0],.bool false]),
 (114,[bE [(0,.agg (aq false [0])),(1,.agg (aq false [1]))] true [0,1],bE [(0,.agg (aq false [0])),(1,.agg (aq false [1]))] true [0,1]],.ao [bE [(0,.agg (aq false [0])),(1,.agg (aq false [1]))] true [0,1],.bool false]),
 (114,[bE [(0,.agg (aq false [2])),(1,.agg (aq false [1]))] true [0,1,2],bE [(0,.agg (aq false [2])),(1,.agg (aq false [1]))] true [0,1,2]],.ao [bE [(0,.agg (aq false [2])),(1,.agg (aq false [1]))] true [0,1,2],.bool false]),
 (116,[.agg [.cK [],.bool true,.ah],i64 0,i64 0],bE [(0,.agg (aq false [0]))] true [0]),
 (116,[bE [(0,.agg (aq false [0]))] true [0],i64 1,i64 1],bE [(0,.agg (aq false [0])),(1,.agg (aq false [1]))] true [0,1]),
 (116,[bE [(0,.agg (aq false [0])),(1,.agg (aq false [1]))] true [0,1],i64 2,i64 0],bE [(0,.agg (aq false [2])),(1,.agg (aq false [1]))] true [0,1,2])]
theorem SI:∀r∈BQ,af r.1 r.2.1 (· = .ret r.2.2):=by
 intro r hr;simp only[BQ,mem_cons,not_mem_nil,or_false] at hr;rcases hr with rfl|rfl|rfl|rfl|rfl|rfl|rfl|rfl|rfl|rfl
 . exact U2
 . exact U3
 . exact U4
 . exact U5
 . exact U6
 . exact U7
 . exact U8
 . exact XM
 . exact XN
 . exact XO
def dB:AV := .agg [.ak 7 [[.str [77,65,73,78],i64 (-1),i64 0,i64 16,.ah,.ah,.ah]],i64 0,.ah,.ak 2 [[.str [83,89,83,80,82,73,78,84],i64 2]],.ah,.ah,.ak 2 [[i64 3,.ak 29 [[i64 1,i64 (-1),i64 (-1),i64 (-1),i64 0,i64 0,i64 0,.bool false,.str [],i64 0,i64 0,i64 0,.bool false,.str [],i64 0,i64 0,i64 0,.bool false,.str [],i64 10,i64 0,i64 0,i64 0,.str [],.ah,.ah,.ah,.bool false,.bool false],[i64 2,i64 0,i64 (-1),i64 (-1),i64 2,i64 15,i64 0,.bool false,.str [],i64 0,i64 0,i64 0,.bool false,.str [],i64 0,i64 0,i64 0,.bool false,.str [],i64 0,i64 0,i64 0,i64 7,.str [],.ah,.ah,.ah,.bool false,.bool false],[i64 4,i64 1,i64 (-1),i64 (-1),i64 0,i64 0,i64 0,.bool false,.str [],i64 0,i64 0,i64 0,.bool false,.str [],i64 0,i64 0,i64 0,.bool false,.str [],i64 1,i64 0,i64 0,i64 0,.str [],.ah,.ah,.ah,.bool false,.bool false],[i64 9,i64 (-1),i64 1,i64 0,i64 2,i64 15,i64 0,.bool false,.str [],i64 0,i64 0,i64 0,.bool false,.str [],i64 0,i64 0,i64 0,.bool false,.str [],i64 0,i64 0,i64 0,i64 0,.str [],.ah,.ah,.ah,.bool false,.bool false],[i64 1,i64 (-1),i64 (-1),i64 (-1),i64 0,i64 0,i64 0,.bool false,.str [],i64 0,i64 0,i64 0,.bool false,.str [],i64 0,i64 0,i64 0,.bool false,.str [],i64 20,i64 0,i64 0,i64 0,.str [],.ah,.ah,.ah,.bool false,.bool false],[i64 8,i64 2,i64 1,i64 (-1),i64 2,i64 15,i64 0,.bool false,.str [],i64 0,i64 0,i64 0,.bool false,.str [],i64 0,i64 0,i64 0,.bool false,.str [],i64 0,i64 0,i64 0,i64 0,.str [],.ah,.ah,.ah,.bool false,.bool false],[i64 27,i64 (-1),i64 (-1),i64 (-1),i64 0,i64 0,i64 0,.bool false,.str [],i64 0,i64 0,i64 0,.bool false,.str [],i64 0,i64 0,i64 0,.bool false,.str [],i64 0,i64 0,i64 0,i64 0,.str [],.ah,.ak 1 [[i64 2]],.ak 5 [[i64 2,i64 15,i64 0,.bool false,.str []]],.bool false,.bool false]]]]]
theorem XT:af 20 [] (· = .ret dB):=uH (T:=[]) (n:=40) (fun _ h=>by cases h) aG
theorem ly:af 14 [dB] (· = .ret (i64 0)):=uH (T:=[]) (n:=40) (fun _ h=>by cases h) aG
def Du:AV := .agg [.ak 7 [[.str [77,65,73,78],i64 (-1),i64 0,i64 16,.ah,.ah,.ah]],i64 0,.ah,.ak 2 [[.str [83,89,83,80,82,73,78,84],i64 2]],.ah,.ah,.ak 2 [[i64 7,.ak 29 [[i64 1,i64 (-1),i64 (-1),i64 (-1),i64 0,i64 0,i64 0,.bool false,.str [],i64 0,i64 0,i64 0,.bool false,.str [],i64 0,i64 0,i64 0,.bool false,.str [],i64 10,i64 0,i64 0,i64 0,.str [],.ah,.ah,.ah,.bool false,.bool false],[i64 2,i64 4,i64 (-1),i64 (-1),i64 2,i64 15,i64 0,.bool false,.str [],i64 0,i64 0,i64 0,.bool false,.str [],i64 0,i64 0,i64 0,.bool false,.str [],i64 0,i64 0,i64 0,i64 7,.str [],.ah,.ah,.ah,.bool false,.bool false],[i64 4,i64 2,i64 (-1),i64 (-1),i64 0,i64 0,i64 0,.bool false,.str [],i64 0,i64 0,i64 0,.bool false,.str [],i64 0,i64 0,i64 0,.bool false,.str [],i64 1,i64 0,i64 0,i64 0,.str [],.ah,.ah,.ah,.bool false,.bool false],[i64 3,i64 5,i64 2,i64 (-1),i64 0,i64 0,i64 0,.bool false,.str [],i64 0,i64 0,i64 0,.bool false,.str [],i64 0,i64 0,i64 0,.bool false,.str [],i64 0,i64 0,i64 0,i64 0,.str [],.ah,.ah,.ah,.bool false,.bool false],[i64 3,i64 0,i64 5,i64 (-1),i64 0,i64 0,i64 0,.bool false,.str [],i64 0,i64 0,i64 0,.bool false,.str [],i64 0,i64 0,i64 0,.bool false,.str [],i64 0,i64 0,i64 0,i64 0,.str [],.ah,.ah,.ah,.bool false,.bool false],[i64 9,i64 (-1),i64 0,i64 4,i64 2,i64 15,i64 0,.bool false,.str [],i64 0,i64 0,i64 0,.bool false,.str [],i64 0,i64 0,i64 0,.bool false,.str [],i64 0,i64 0,i64 0,i64 0,.str [],.ah,.ah,.ah,.bool false,.bool false],[i64 1,i64 (-1),i64 (-1),i64 (-1),i64 0,i64 0,i64 0,.bool false,.str [],i64 0,i64 0,i64 0,.bool false,.str [],i64 0,i64 0,i64 0,.bool false,.str [],i64 20,i64 0,i64 0,i64 0,.str [],.ah,.ah,.ah,.bool false,.bool false],[i64 3,i64 0,i64 5,i64 (-1),i64 0,i64 0,i64 0,.bool false,.str [],i64 0,i64 0,i64 0,.bool false,.str [],i64 0,i64 0,i64 0,.bool false,.str [],i64 0,i64 0,i64 0,i64 0,.str [],.ah,.ah,.ah,.bool false,.bool false],[i64 8,i64 6,i64 0,i64 (-1),i64 2,i64 15,i64 0,.bool false,.str [],i64 0,i64 0,i64 0,.bool false,.str [],i64 0,i64 0,i64 0,.bool false,.str [],i64 0,i64 0,i64 0,i64 0,.str [],.ah,.ah,.ah,.bool false,.bool false],[i64 27,i64 (-1),i64 (-1),i64 (-1),i64 0,i64 0,i64 0,.bool false,.str [],i64 0,i64 0,i64 0,.bool false,.str [],i64 0,i64 0,i64 0,.bool false,.str [],i64 0,i64 0,i64 0,i64 0,.str [],.ah,.ak 1 [[i64 6]],.ak 5 [[i64 2,i64 15,i64 0,.bool false,.str []]],.bool false,.bool false]]]]]
theorem PQ:af 14 [Du] (· = .ret (i64 0)):=uH (T:=[]) (n:=40) (fun _ h=>by cases h) aG
def lk:AV := .agg [.ak 7 [[.str [77,65,73,78],i64 (-1),i64 0,i64 16,.ah,.ah,.ah]],i64 0,.ah,.ak 2 [[.str [83,89,83,80,82,73,78,84],i64 2]],.ah,.ah,.ak 2 [[i64 4,.ak 29 [[i64 1,i64 (-1),i64 (-1),i64 (-1),i64 0,i64 0,i64 0,.bool false,.str [],i64 0,i64 0,i64 0,.bool false,.str [],i64 0,i64 0,i64 0,.bool false,.str [],i64 10,i64 0,i64 0,i64 0,.str [],.ah,.ah,.ah,.bool false,.bool false],[i64 2,i64 0,i64 (-1),i64 (-1),i64 2,i64 15,i64 0,.bool false,.str [],i64 0,i64 0,i64 0,.bool false,.str [],i64 0,i64 0,i64 0,.bool false,.str [],i64 0,i64 0,i64 0,i64 7,.str [],.ah,.ah,.ah,.bool false,.bool false],[i64 4,i64 1,i64 (-1),i64 (-1),i64 0,i64 0,i64 0,.bool false,.str [],i64 0,i64 0,i64 0,.bool false,.str [],i64 0,i64 0,i64 0,.bool false,.str [],i64 1,i64 0,i64 0,i64 0,.str [],.ah,.ah,.ah,.bool false,.bool false],[i64 9,i64 (-1),i64 1,i64 0,i64 2,i64 15,i64 0,.bool false,.str [],i64 0,i64 0,i64 0,.bool false,.str [],i64 0,i64 0,i64 0,.bool false,.str [],i64 0,i64 0,i64 0,i64 0,.str [],.ah,.ah,.ah,.bool false,.bool false],[i64 1,i64 (-1),i64 (-1),i64 (-1),i64 0,i64 0,i64 0,.bool false,.str [],i64 0,i64 0,i64 0,.bool false,.str [],i64 0,i64 0,i64 0,.bool false,.str [],i64 20,i64 0,i64 0,i64 0,.str [],.ah,.ah,.ah,.bool false,.bool false],[i64 8,i64 0,i64 1,i64 (-1),i64 2,i64 15,i64 0,.bool false,.str [],i64 0,i64 0,i64 0,.bool false,.str [],i64 0,i64 0,i64 0,.bool false,.str [],i64 0,i64 0,i64 0,i64 0,.str [],.ah,.ah,.ah,.bool false,.bool false],[i64 27,i64 (-1),i64 (-1),i64 (-1),i64 0,i64 0,i64 0,.bool false,.str [],i64 0,i64 0,i64 0,.bool false,.str [],i64 0,i64 0,i64 0,.bool false,.str [],i64 0,i64 0,i64 0,i64 0,.str [],.ah,.ak 1 [[i64 0]],.ak 5 [[i64 2,i64 15,i64 0,.bool false,.str []]],.bool false,.bool false]]]]]
theorem Fx:af 14 [lk] (· = .ret (i64 0)):=uH (T:=[]) (n:=40) (fun _ h=>by cases h) aG
def D4:List AV->Option AV
 | [.agg cs] => match xg cs with
   | some i => match ble i.l.l.length 40 with
     | true=>some (aU (aT i))
     | false=>none
   | none=>none
 | _=>none
theorem ZY {args:List AV}{v:AV}(h:D4 args=some v):af 83 args (· = .ret v):=by
 unfold D4 at h;split at h
 . rename_i cs
   cases hi:xg cs with
   | none=>rw[hi] at h;cases h
   | some i =>
     rw[hi] at h;dsimp only at h;cases hl:ble i.l.l.length 40 with
     | false=>rw[hl] at h;cases h
     | true =>
       rw[hl] at h;cases h;exact DP.lr (args2:=[i.av]) ⟨.inl (.inr ⟨_,_,rfl,rfl,Th hi⟩),trivial⟩ (y8 i (le_of_ble_eq_true hl))
 . cases h
def B9 (T:List j4)(g:Nat):Option (List AV->Option AV):=
 match beq g 138 with
 | true=>some wB
 | false => match beq g 83 with
   | true=>some D4
   | false => match DF T g with
     | true=>some (vh T g)
     | false=>none
theorem Uc {T:List j4}(hT:∀r∈T,af r.1 r.2.1 (· = .ret r.2.2)):zM (B9 T):=by
 intro g U args v h hv;unfold B9 at h;split at h
 . rename_i e;cases h;rw[eq_of_beq_eq_true e];exact FX hv
 . split at h
   . rename_i e;cases h;rw[eq_of_beq_eq_true e];exact ZY hv
   . split at h
     . cases h;exact DH hT hv
     . cases h
theorem jN {T:List j4}(hT:∀r∈T,af r.1 r.2.1 (· = .ret r.2.2)){n:Nat}{g:FuncId}{args:List AV}{v:AV}(h:(wM (B9 T) n).P g args (fun ae=>ae = .ret v)=(AE.ret v=AE.ret v)):af g args (· = .ret v):=Gp (Uc hT) h
def ni:AV := .agg [.ak 29 [[i64 1,i64 (-1),i64 (-1),i64 (-1),i64 0,i64 0,i64 0,.bool false,.str [],i64 0,i64 0,i64 0,.bool false,.str [],i64 0,i64 0,i64 0,.bool false,.str [],i64 10,i64 0,i64 0,i64 0,.str [],.ah,.ah,.ah,.bool false,.bool false],[i64 2,i64 0,i64 (-1),i64 (-1),i64 2,i64 15,i64 0,.bool false,.str [],i64 0,i64 0,i64 0,.bool false,.str [],i64 0,i64 0,i64 0,.bool false,.str [],i64 0,i64 0,i64 0,i64 7,.str [],.ah,.ah,.ah,.bool false,.bool false],[i64 4,i64 1,i64 (-1),i64 (-1),i64 0,i64 0,i64 0,.bool false,.str [],i64 0,i64 0,i64 0,.bool false,.str [],i64 0,i64 0,i64 0,.bool false,.str [],i64 1,i64 0,i64 0,i64 0,.str [],.ah,.ah,.ah,.bool false,.bool false],[i64 9,i64 (-1),i64 1,i64 0,i64 2,i64 15,i64 0,.bool false,.str [],i64 0,i64 0,i64 0,.bool false,.str [],i64 0,i64 0,i64 0,.bool false,.str [],i64 0,i64 0,i64 0,i64 0,.str [],.ah,.ah,.ah,.bool false,.bool false],[i64 1,i64 (-1),i64 (-1),i64 (-1),i64 0,i64 0,i64 0,.bool false,.str [],i64 0,i64 0,i64 0,.bool false,.str [],i64 0,i64 0,i64 0,.bool false,.str [],i64 20,i64 0,i64 0,i64 0,.str [],.ah,.ah,.ah,.bool false,.bool false],[i64 8,i64 2,i64 1,i64 (-1),i64 2,i64 15,i64 0,.bool false,.str [],i64 0,i64 0,i64 0,.bool false,.str [],i64 0,i64 0,i64 0,.bool false,.str [],i64 0,i64 0,i64 0,i64 0,.str [],.ah,.ah,.ah,.bool false,.bool false],[i64 27,i64 (-1),i64 (-1),i64 (-1),i64 0,i64 0,i64 0,.bool false,.str [],i64 0,i64 0,i64 0,.bool false,.str [],i64 0,i64 0,i64 0,.bool false,.str [],i64 0,i64 0,i64 0,i64 0,.str [],.ah,.ak 1 [[i64 2]],.ak 5 [[i64 2,i64 15,i64 0,.bool false,.str []]],.bool false,.bool false]],i64 3,.ah]
def nu:AV := .ak 1 [[.ak 1 [[.int .u64 0]]],[.ak 1 [[.int .u64 0]]],[.ak 1 [[.int .u64 1]]],[.ak 1 [[.int .u64 3]]],[.ak 1 [[.int .u64 2]]],[.ak 1 [[.int .u64 2]]],[.ak 1 [[.int .u64 4]]],[.ak 1 [[.int .u64 0]]]]
theorem oF:af 37 [ni] (· = .ret nu):=jN (T:=[]) (n:=40) (fun _ h=>by cases h) aG
def La:AV := .ao [Du,.agg [.ak 1 [[.ak 1 [[i64 0],[i64 1],[i64 2],[i64 (-1)],[i64 (-1)],[i64 3],[i64 4],[i64 (-1)],[i64 5],[i64 6]]]]],i64 0]
def oa:AV := .agg [.ak 1 [[.ak 1 [[i64 0],[i64 1],[i64 2],[i64 3],[i64 4],[i64 5],[i64 6]]]]]
theorem zac:af 22 [dB,i64 4,i64 0,.ak 1 [[i64 1]]] (· = .ret (La)):=by
 refine jN (T:=[(14,[dB],i64 0),(14,[Du],i64 0)]) (n:=40) (fun r hr=>?_) aG
 simp only[mem_cons,not_mem_nil,or_false] at hr;rcases hr with rfl|rfl
 . exact ly
 . exact PQ
theorem Z3:af 11 [dB,i64 4] (· = .ret (.ao [lk,oa,i64 0])):=by
 refine jN (T:=[(14,[dB],i64 0),(37,[ni],nu)]) (n:=40) (fun r hr=>?_) aG
 simp only[mem_cons,not_mem_nil,or_false] at hr;rcases hr with rfl|rfl
 . exact ly
 . exact oF
def PN:List j4:=(14,[dB],i64 0)::(14,[lk],i64 0)::BQ
theorem Fu:∀r∈PN,af r.1 r.2.1 (· = .ret r.2.2):=by
 intro r hr;rcases mem_cons.1 hr with rfl|hr
 . exact ly
 . rcases mem_cons.1 hr with rfl | hr
   . exact Fx
   . exact SI r hr
theorem zab:af 60 [.agg (dB.cells++lk.cells++oa.cells),i64 0] (· = .ret (.bool true)):=jN Fu (n:=40) aG
theorem Z8:af 59 [.agg (dB.cells++lk.cells++oa.cells)] (· = .ret (.bool true)):=jN Fu (n:=40) aG
def Fw:List j4:=[(14,[dB],i64 0),(14,[lk],i64 0),(60,[.agg (dB.cells++lk.cells++oa.cells),i64 0],.bool true),(59,[.agg (dB.cells++lk.cells++oa.cells)],.bool true)]
theorem PO:∀r∈Fw,af r.1 r.2.1 (· = .ret r.2.2):=by
 intro r hr;simp only[Fw,mem_cons,not_mem_nil,or_false] at hr;rcases hr with rfl|rfl|rfl|rfl
 . exact ly
 . exact Fx
 . exact zab
 . exact Z8
theorem Z4:af 15 [dB,i64 4,lk,oa] (· = .ret (i64 0)):=jN PO (n:=40) aG
end Go.Ago
