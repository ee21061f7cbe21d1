/-
  Part 18: lemmas, each with its own conditions.
-/
import Derived.Test.YthaolifcglpkdaaGreatDoorA16
import Derived.Test.YthaolifcglpkdaaGreatDoorA17
set_option maxRecDepth 100000
set_option maxHeartbeats 0
set_option linter.all false
namespace Go.Ago
open Go.Proofs
theorem yir:(Tryz.prog.funcs.toList.all fun f=>!(f.name == "runtime.NumGoroutine"))=true:=by kernel_rfl
theorem ynu (g:Nat)(fn:Func)(h:Tryz.prog.funcs[g]? = some fn):fn.name ≠ "runtime.NumGoroutine":=by
 have:=List.all_eq_true.1 yir fn (List.mem_of_getElem? (i:=g) (by rw[Array.getElem?_toList];exact h))
 simpa using this
theorem yfd (g:FuncId)(cap:List AV)(h:DP Tryz.prog ERg g cap (· = .ret (.tup []))):DP Tryz.prog ERg 127 [.fn (.func g) [] cap] (· = .ret (i64 0)):=by
 obtain⟨ae,h1,rfl⟩:=h;exact⟨_,zoj h1,rfl⟩
def yp2 (g:Nat):Bool:=[33,37,39,42,43,45,51,62,84,88,91,111,167,170].any fun k=>Nat.beq g k
def yon (g:Nat):Bool:=[18,19,75,78].any fun k=>Nat.beq g k
def yqj (g:Nat)(id:Nat):List Nat:=match Nat.beq g 62 with
 | true=>[999]
 | false => match Nat.beq g 46 with
   | true => match Nat.beq id 5 with
     | true=>[8]
     | false => match Nat.beq id 20 with
       | true=>[15]
       | false=>[]
   | false=>[]
abbrev evR (Kn:Nat→Option (List AV→Option AV))(n:Nat):EvS:=ev Tryz.prog ERg Kn 127 yon yqj yp2 n
def KnOK (Kn:Nat→Option (List AV→Option AV)):Prop:=∀g T args v,Kn g=some T→T args=some v→DPR g args (· = .ret v)
theorem yoq {Kn:Nat→Option (List AV→Option AV)}(hK:KnOK Kn){n:Nat}{g:FuncId}{args:List AV}{v:AV}(h:(evR Kn n).P g args (fun ae=>ae = .ret v)=(AE.ret v=AE.ret v)):DPR g args (· = .ret v):=
 (ev_s eRg zae ynu hK yfd n).P _ _ _ (h ▸ rfl)
def eqL {α:Type}(f:α→α→Bool):List α→List α→Bool
 | [],[]=>true
 | x :: xs, y :: ys => match f x y with
   | true=>eqL f xs ys
   | false=>false
 | _,_=>false
theorem zpp {α:Type}{f:α→α→Bool}(hf:∀x y,f x y=true→x=y):∀{xs ys:List α},eqL f xs ys=true→xs=ys
 | [],[],_=>rfl
 | x :: xs, y :: ys, h => by
   simp only[eqL] at h;cases hx:f x y with
   | true=>rw[hx] at h;rw[hf x y hx,zpp hf h]
   | false=>rw[hx] at h;cases h
 | [],_::_,h=>by cases h
 | _::_,[],h=>by cases h
def yey:Int→Int→Bool
 | .ofNat a,.ofNat b=>Nat.beq a b
 | .negSucc a,.negSucc b=>Nat.beq a b
 | _,_=>false
theorem ya9 {a b:Int}(h:yey a b=true):a=b:=by
 cases a<;>cases b<;>first|(rw[Nat.eq_of_beq_eq_true h])|cases h
def AV.eqb:Nat→AV→AV→Bool
 | 0,_,_=>false
 | n + 1, x, y => match x, y with
   | .bool a, .bool b => match a, b with
     | true,true=>true
     | false,false=>true
     | _,_=>false
   | .int k a, .int k' b => match decide (k = k') with
     | true=>yey a b
     | false=>false
   | .str a,.str b=>eqL (fun u v=>Nat.beq u.toNat v.toNat) a b
   | .nils,.nils=>true
   | .nilp,.nilp=>true
   | .nilf,.nilf=>true
   | .rsl s es, .rsl s' es' => match Nat.beq s s' with
     | true=>eqL (eqL (AV.eqb n)) es es'
     | false=>false
   | .rptr cs,.rptr cs'=>eqL (AV.eqb n) cs cs'
   | .agg cs,.agg cs'=>eqL (AV.eqb n) cs cs'
   | .tup cs,.tup cs'=>eqL (AV.eqb n) cs cs'
   | .rmp es, .rmp es' => eqL (fun p q => match yey p.1 q.1 with
     | true=>AV.eqb n p.2 q.2
     | false=>false) es es'
   | _,_=>false
theorem AV.eqb_s:∀{n:Nat} {x y:AV},AV.eqb n x y=true→x=y
 | 0,_,_,h=>by cases h
 | n + 1, x, y, h => by
   have ih:∀x y,AV.eqb n x y=true→x=y:=fun x y h=>AV.eqb_s h
   cases x<;>cases y<;>first|(cases h;done)|rfl|skip
   case bool a b=>cases a<;>cases b<;>first|rfl|cases h
   case int k a k' b=>
    simp only[AV.eqb] at h
    by_cases hk:k=k'
    · subst hk;rw[decide_eq_true rfl] at h;rw[ya9 h]
    · rw[decide_eq_false hk] at h;cases h
   case str a b=>rw[zpp (fun u v h=>UInt8.toNat_inj.1 (Nat.eq_of_beq_eq_true h)) (h:eqL _ a b=true)]
   case rsl s es s' es'=>
    simp only[AV.eqb] at h;cases hs:Nat.beq s s' with
    | true=>rw[hs] at h;rw[Nat.eq_of_beq_eq_true hs,zpp (fun x y h=>zpp ih h) h]
    | false=>rw[hs] at h;cases h
   case rptr a b=>rw[zpp ih (h:eqL _ a b=true)]
   case agg a b=>rw[zpp ih (h:eqL _ a b=true)]
   case tup a b=>rw[zpp ih (h:eqL _ a b=true)]
   case rmp a b=>
    rw[zpp (fun p q h=>?_) (h:eqL _ a b=true)]
    obtain⟨p1,p2⟩:=p;obtain⟨q1,q2⟩:=q;dsimp only at h;cases hp:yey p1 q1 with
    | true=>rw[hp] at h;rw[ya9 hp,ih _ _ h]
    | false=>rw[hp] at h;cases h
abbrev KRow:=Nat×List AV×AV
def tabK (T:List KRow)(g:Nat)(args:List AV):Option AV:=
 match T with
 | []=>none
 | (g', bs, v) :: T => match Nat.beq g g' && eqL (AV.eqb 30) args bs with
   | true=>some v
   | false=>tabK T g args
theorem zyn:∀{T:List KRow} {g:Nat} {args:List AV} {v:AV},(∀r∈T,DPR r.1 r.2.1 (· = .ret r.2.2))→tabK T g args=some v→DPR g args (· = .ret v)
 | [],_,_,_,_,h=>by cases h
 | (g', bs, u) :: T, g, args, v, hT, h => by
   simp only[tabK] at h;cases hc:Nat.beq g g' && eqL (AV.eqb 30) args bs with
   | true =>
     rw[hc] at h;cases h;simp only[Bool.and_eq_true] at hc;have e1:=Nat.eq_of_beq_eq_true hc.1;have e2:=zpp (fun _ _ h=>AV.eqb_s h) hc.2
     subst e1;subst e2;exact hT _ List.mem_cons_self
   | false=>rw[hc] at h;exact zyn (fun r hr=>hT r (List.mem_cons_of_mem _ hr)) h
def tabH (T:List KRow)(g:Nat):Bool:=
 match T with
 | []=>false
 | (g', _, _) :: T => match Nat.beq g g' with
   | true=>true
   | false=>tabH T g
def ye6:List AV→Option AV
 | [.str s,.str [c]]=>some (.bool (conB s c))
 | _=>none
def tyP:List AV→Option Ty
 | [.int .i64 k,.int .i64 p,.int .i64 q,.bool v,.str s]=>if h:s.length<281474976710656 then some ⟨k,p,q,v,s,h⟩ else none
 | _=>none
theorem ypr {r:List AV}{t:Ty}(h:tyP r=some t):r=t.cells:=by
 unfold tyP at h;split at h
 · split at h
   · cases h;rfl
   · cases h
 · cases h
def inP:List AV→Option Int
 | [.int .i64 k]=>some k
 | _=>none
theorem yqb {r:List AV}{t:Int}(h:inP r=some t):r=[i64 t]:=by
 unfold inP at h;split at h
 · cases h;rfl
 · cases h
def ydu {α:Type}(s:Nat)(f:List AV→Option α):AV→Option (List α)
 | .nils=>some []
 | .rsl s' es => match Nat.beq s s' with
   | true=>mapO f es
   | false=>none
 | _=>none
theorem zza {α:Type}{s:Nat}{f:List AV→Option α}{g:α→List AV}(hf:∀r t,f r=some t→r=g t){x:AV}{l:List α}(h:ydu s f x=some l):Nrm0 x (.rsl s (l.map g)):=by
 unfold ydu at h;split at h
 · cases h;exact .n
 · rename_i s' es
   cases hs:Nat.beq s s' with
   | true =>
     rw[hs] at h;have:=Nat.eq_of_beq_eq_true hs;subst this;have key:∀{es:List (List AV)} {l:List α},mapO f es=some l→es=l.map g:=by
      intro es
      induction es with
      | nil=>intro l h;simp only[mapO,Option.some.injEq] at h;subst h;rfl
      | cons e es ih =>
        intro l h;simp only[mapO] at h;cases he:f e with
        | none=>rw[he] at h;cases h
        | some y =>
          rw[he] at h;dsimp only at h;cases hr:mapO f es with
          | none=>rw[hr] at h;cases h
          | some ys=>rw[hr] at h;cases h;rw[List.map_cons,ih hr,hf _ _ he]
     rw[key h];exact .r
   | false=>rw[hs] at h;cases h
 · cases h
def insP:List AV→Option Ins
 | [.int .i64 op,.int .i64 d,.int .i64 a,.int .i64 b,.int .i64 tk,.int .i64 tp,.int .i64 tq,.bool tv,.str ts,.int .i64 uk,.int .i64 up,.int .i64 uq,.bool uv,.str us,.int .i64 wk,.int .i64 wp,.int .i64 wq,.bool wv,.str ws,
  .int .i64 n,.int .i64 m,.int .i64 p,.int .i64 vn,.str vs,.nils,l,y,.bool sz,.bool rg]=>match ydu 1 inP l,ydu 5 tyP y with
  | some ll,some yy=>if h:ts.length<281474976710656∧us.length<281474976710656∧ws.length<281474976710656∧vs.length<281474976710656∧ll.length<281474976710656∧yy.length<281474976710656 then
   some ⟨op,d,a,b,⟨tk,tp,tq,tv,ts,h.1⟩,⟨uk,up,uq,uv,us,h.2.1⟩,⟨wk,wp,wq,wv,ws,h.2.2.1⟩,n,m,p,⟨vn,vs,h.2.2.2.1⟩,⟨[],by decide⟩,⟨ll,h.2.2.2.2.1⟩,⟨yy,h.2.2.2.2.2⟩,sz,rg⟩ else none
  | _,_=>none
 | _=>none
theorem yoc {cs:List AV}{i:Ins}(h:insP cs=some i):nrmL Nrm0 cs i.cells:=by
 unfold insP at h;split at h
 · split at h
   · rename_i ll yy hl hy
     split at h
     · cases h
       exact⟨.r,.r,.r,.r,.r,.r,.r,.r,.r,.r,.r,.r,.r,.r,.r,.r,.r,.r,.r,.r,.r,.r,.r,.r,.n,zza (fun _ _ h=>yqb h) hl,zza (fun _ _ h=>ypr h) hy,.r,.r,trivial⟩
     · cases h
   · cases h
 · cases h
theorem zg4 {P:Program}{E:Env}{g:FuncId}{args args2:List AV}{Q:AE→Prop}(hx:nrmL Nrm2 args args2)(h:DP P E g args2 Q):DP P E g args Q:=by
 obtain⟨ae,⟨h0,h1⟩,h2⟩:=h;exact⟨ae,⟨h0,fun c w vs hf hw hr=>h1 c w vs hf hw (zf1 (fun _ _ _ a b=>Nrm2.rel a b) hx hr)⟩,h2⟩
theorem ybi {args:List AV}{v:AV}(h:ye6 args=some v):DPR 138 args (· = .ret v):=by
 unfold ye6 at h;split at h
 · cases h;exact zd0 _ _
 · cases h
def knC (T:List KRow)(g:Nat):Option (List AV→Option AV):=
 match Nat.beq g 138 with
 | true=>some ye6
 | false => match tabH T g with
   | true=>some (tabK T g)
   | false=>none
theorem yn8 {T:List KRow}(hT:∀r∈T,DPR r.1 r.2.1 (· = .ret r.2.2)):KnOK (knC T):=by
 intro g U args v h hv;unfold knC at h;split at h
 · rename_i e;cases h;rw[Nat.eq_of_beq_eq_true e];exact ybi hv
 · split at h
   · cases h;exact zyn hT hv
   · cases h
theorem yaj {T:List KRow}(hT:∀r∈T,DPR r.1 r.2.1 (· = .ret r.2.2)){n:Nat}{g:FuncId}{args:List AV}{v:AV}(h:(evR (knC T) n).P g args (fun ae=>ae = .ret v)=(AE.ret v=AE.ret v)):DPR g args (· = .ret v):=yoq (yn8 hT) h
def yii (T:List (Int×Bool×List Int))(k:Int):Bool×List Int:=match T with
 | []=>(false,[])
 | (a, b) :: T => match decide (a = k) with
   | true=>b
   | false=>yii T k
def zed (T:List (Int×Bool×List Int))(k:Int):AV := .agg (zal (yii T k).1 (yii T k).2)
theorem zb0 (T:List (Int×Bool×List Int))(k:Int):zjj (zed T k):=⟨_,_,rfl⟩
def zqt (T:List (Int×Bool))(k:Int):Bool:=match T with
 | []=>false
 | (a, b) :: T => match decide (a = k) with
   | true=>b
   | false=>zqt T k
theorem zbp {g:FuncId}{args:List AV}{v:AV}(h:(evR (knC []) 40).P g args (fun ae=>ae = .ret v)=(AE.ret v=AE.ret v)):DPR g args (fun ae=>ae = .ret v):=yaj (T:=[]) (n:=40) (fun _ h=>by cases h) h
theorem yk3 {g:FuncId}{args:List AV}{b:Bool}(h:DPR g args (fun ae=>ae = .ret (.agg [.bool b,.nils]))):DPR g args (fun ae=>ae = .ret (.agg (zal b []))):=
 h.nrm fun _ e=>⟨_,.agg (zal b []),e,.inl (.inr ⟨_,_,rfl,rfl,.r,.n,trivial⟩),rfl⟩
theorem yo3:DPR 167 [.agg (zal true []),.agg (zal true [])] (fun ae=>ae = .ret (.agg (zal true []))):=yk3 (zbp (by kernel_rfl))
theorem yo2:DPR 168 [.agg (zal true []),.agg (zal true [])] (fun ae=>ae = .ret (.bool true)):=zbp (by kernel_rfl)
theorem yo1:DPR 167 [.agg (zal true []),.agg (zal true [0])] (fun ae=>ae = .ret (.agg (zal true [0]))):=zbp (by kernel_rfl)
theorem yo0:DPR 168 [.agg (zal true [0]),.agg (zal true [])] (fun ae=>ae = .ret (.bool false)):=zbp (by kernel_rfl)
theorem yj4:DPR 65 [zaz [] true [],i64 0] (fun ae=>ae = .ret (.agg (zal true []))):=zbp (by kernel_rfl)
theorem yj3:DPR 65 [zaz [(0,.agg (zal false [0]))] true [0],i64 0] (fun ae=>ae = .ret (.agg (zal false [0]))):=zbp (by kernel_rfl)
theorem yg4:DPR 167 [.agg (zal true []),.agg (zal false [0])] (fun ae=>ae = .ret (.agg (zal false [0]))):=zbp (by kernel_rfl)
theorem yg3:DPR 168 [.agg (zal false [0]),.agg (zal true [])] (fun ae=>ae = .ret (.bool false)):=zbp (by kernel_rfl)
theorem yoz:DPR 167 [.agg (zal true []),.agg (zal true [0,1])] (fun ae=>ae = .ret (.agg (zal true [0,1]))):=zbp (by kernel_rfl)
theorem yoy:DPR 168 [.agg (zal true [0,1]),.agg (zal true [])] (fun ae=>ae = .ret (.bool false)):=zbp (by kernel_rfl)
theorem ycj:DPR 65 [zaz [(0,.agg (zal false [0])),(1,.agg (zal false [1]))] true [0,1],i64 0] (fun ae=>ae = .ret (.agg (zal false [0]))):=zbp (by kernel_rfl)
theorem yg5:DPR 65 [zaz [] true [],i64 1] (fun ae=>ae = .ret (.agg (zal true []))):=zbp (by kernel_rfl)
theorem yci:DPR 65 [zaz [(0,.agg (zal false [0])),(1,.agg (zal false [1]))] true [0,1],i64 1] (fun ae=>ae = .ret (.agg (zal false [1]))):=zbp (by kernel_rfl)
theorem ych:DPR 167 [.agg (zal true []),.agg (zal false [1])] (fun ae=>ae = .ret (.agg (zal false [1]))):=zbp (by kernel_rfl)
theorem ycg:DPR 168 [.agg (zal false [1]),.agg (zal true [])] (fun ae=>ae = .ret (.bool false)):=zbp (by kernel_rfl)
theorem ykm:DPR 167 [.agg (zal true []),.agg (zal true [0,1,2])] (fun ae=>ae = .ret (.agg (zal true [0,1,2]))):=zbp (by kernel_rfl)
theorem ykl:DPR 168 [.agg (zal true [0,1,2]),.agg (zal true [])] (fun ae=>ae = .ret (.bool false)):=zbp (by kernel_rfl)
theorem ycf:DPR 65 [zaz [(0,.agg (zal false [2])),(1,.agg (zal false [1]))] true [0,1,2],i64 0] (fun ae=>ae = .ret (.agg (zal false [2]))):=zbp (by kernel_rfl)
theorem ykk:DPR 167 [.agg (zal true []),.agg (zal false [2])] (fun ae=>ae = .ret (.agg (zal false [2]))):=zbp (by kernel_rfl)
theorem ykj:DPR 168 [.agg (zal false [2]),.agg (zal true [])] (fun ae=>ae = .ret (.bool false)):=zbp (by kernel_rfl)
theorem yce:DPR 65 [zaz [(0,.agg (zal false [2])),(1,.agg (zal false [1]))] true [0,1,2],i64 1] (fun ae=>ae = .ret (.agg (zal false [1]))):=zbp (by kernel_rfl)
theorem yki:DPR 167 [.agg (zal true [0]),.agg (zal true [0])] (fun ae=>ae = .ret (.agg (zal true [0]))):=zbp (by kernel_rfl)
theorem ykh:DPR 168 [.agg (zal true [0]),.agg (zal true [0])] (fun ae=>ae = .ret (.bool true)):=zbp (by kernel_rfl)
theorem ycd:DPR 167 [.agg (zal false [0]),.agg (zal false [0])] (fun ae=>ae = .ret (.agg (zal false [0]))):=zbp (by kernel_rfl)
theorem ycc:DPR 168 [.agg (zal false [0]),.agg (zal false [0])] (fun ae=>ae = .ret (.bool true)):=zbp (by kernel_rfl)
theorem ykg:DPR 167 [.agg (zal true [0,1]),.agg (zal true [0,1])] (fun ae=>ae = .ret (.agg (zal true [0,1]))):=zbp (by kernel_rfl)
theorem ykf:DPR 168 [.agg (zal true [0,1]),.agg (zal true [0,1])] (fun ae=>ae = .ret (.bool true)):=zbp (by kernel_rfl)
theorem ycb:DPR 167 [.agg (zal false [1]),.agg (zal false [1])] (fun ae=>ae = .ret (.agg (zal false [1]))):=zbp (by kernel_rfl)
theorem yca:DPR 168 [.agg (zal false [1]),.agg (zal false [1])] (fun ae=>ae = .ret (.bool true)):=zbp (by kernel_rfl)
theorem yke:DPR 167 [.agg (zal true [0,1,2]),.agg (zal true [0,1,2])] (fun ae=>ae = .ret (.agg (zal true [0,1,2]))):=zbp (by kernel_rfl)
theorem ykd:DPR 168 [.agg (zal true [0,1,2]),.agg (zal true [0,1,2])] (fun ae=>ae = .ret (.bool true)):=zbp (by kernel_rfl)
theorem ykc:DPR 167 [.agg (zal false [2]),.agg (zal false [2])] (fun ae=>ae = .ret (.agg (zal false [2]))):=zbp (by kernel_rfl)
theorem ykb:DPR 168 [.agg (zal false [2]),.agg (zal false [2])] (fun ae=>ae = .ret (.bool true)):=zbp (by kernel_rfl)
theorem yka:DPR 170 [.agg [.bool true,.nils],i64 0] (fun ae=>ae = .ret (.agg (zal true [0]))):=zbp (by kernel_rfl)
theorem yj9:DPR 170 [.agg (zal true [0]),i64 1] (fun ae=>ae = .ret (.agg (zal true [0,1]))):=zbp (by kernel_rfl)
theorem yj8:DPR 170 [.agg (zal false [0]),i64 1] (fun ae=>ae = .ret (.agg (zal false [0]))):=zbp (by kernel_rfl)
theorem yj7:DPR 170 [.agg (zal true [0,1]),i64 2] (fun ae=>ae = .ret (.agg (zal true [0,1,2]))):=zbp (by kernel_rfl)
theorem yj6:DPR 170 [.agg (zal false [0]),i64 2] (fun ae=>ae = .ret (.agg (zal false [0]))):=zbp (by kernel_rfl)
theorem yj5:DPR 170 [.agg (zal false [1]),i64 2] (fun ae=>ae = .ret (.agg (zal false [1]))):=zbp (by kernel_rfl)
theorem yn2:DPR 114 [.agg [.rmp [],.bool true,.nils],.agg [.rmp [],.bool true,.nils]] (· = .ret (.tup [zaz [] true [],.bool false])):=by
 refine zg4 (args2:=[zaz [] true [],zaz [] true []]) ⟨.inl (.inr ⟨_,_,rfl,rfl,.r,.r,.n,trivial⟩),.inl (.inr ⟨_,_,rfl,rfl,.r,.r,.n,trivial⟩),trivial⟩ ?_;refine (ziz [] [] (by simp[RisK]) (by simp[RisK]) _ _ _ _ (zed []) (zed []) (zed []) (zqt []) true [] yo3 yo2
  (zb0 _) (zb0 _) (zb0 _) (fun p hp=>by(simp at hp;done) ) (fun p hp=>by(simp at hp;done) )
  (fun k hk=>by obtain⟨x,h⟩:=hk;simp at h)
  (fun k hk=>by obtain⟨x,h⟩:=hk;simp at h)
  (fun k hk=>by obtain⟨x,h⟩:=hk;simp at h)
  (fun k hk=>by obtain⟨x,h⟩:=hk;simp at h)).mono fun ae h=>h.trans ?_
 kernel_rfl
theorem yn1:DPR 114 [.agg [.rmp [],.bool true,.nils],zaz [(0,.agg (zal false [0]))] true [0]] (· = .ret (.tup [zaz [(0,.agg (zal false [0]))] true [0],.bool true])):=by
 refine zg4 (args2:=[zaz [] true [],zaz [(0,.agg (zal false [0]))] true [0]]) ⟨.inl (.inr ⟨_,_,rfl,rfl,.r,.r,.n,trivial⟩),.inl .r,trivial⟩ ?_;refine (zl7 [] [(0,.agg (zal false [0]))] (by simp[RisK]) (by simp[RisK]) _ _ _ _ (zed [(0,false,[0])]) (zed [(0,true,[])]) (zed [(0,false,[0])]) (zqt [(0,false)]) true [0] yo1 yo0
  (zb0 _) (zb0 _) (zb0 _) (fun p hp=>by(simp at hp;done) ) (fun p hp=>by(simp at hp;rcases hp with rfl|rfl<;>exact⟨_,_,rfl⟩) )
  (fun k hk=>by
    have hk:k=0:=by obtain⟨x,h⟩:=hk;simp at h;omega
    rcases hk with rfl
    · exact yj4)
  (fun k hk=>by
    have hk:k=0:=by obtain⟨x,h⟩:=hk;simp at h;omega
    rcases hk with rfl
    · exact yj3)
  (fun k hk=>by
    have hk:k=0:=by obtain⟨x,h⟩:=hk;simp at h;omega
    rcases hk with rfl
    · exact yg4)
  (fun k hk=>by
    have hk:k=0:=by obtain⟨x,h⟩:=hk;simp at h;omega
    rcases hk with rfl
    · exact yg3)).mono fun ae h=>h.trans ?_
 kernel_rfl
theorem yn0:DPR 114 [.agg [.rmp [],.bool true,.nils],zaz [(0,.agg (zal false [0])),(1,.agg (zal false [1]))] true [0,1]] (· = .ret (.tup [zaz [(0,.agg (zal false [0])),(1,.agg (zal false [1]))] true [0,1],.bool true])):=by
 refine zg4 (args2:=[zaz [] true [],zaz [(0,.agg (zal false [0])),(1,.agg (zal false [1]))] true [0,1]]) ⟨.inl (.inr ⟨_,_,rfl,rfl,.r,.r,.n,trivial⟩),.inl .r,trivial⟩ ?_;refine (zl7 [] [(0,.agg (zal false [0])),(1,.agg (zal false [1]))] (by simp[RisK]) (by simp[RisK]) _ _ _ _ (zed [(0,false,[0]),(1,false,[1])]) (zed [(0,true,[]),(1,true,[])]) (zed [(0,false,[0]),(1,false,[1])]) (zqt [(0,false),(1,false)]) true [0,1] yoz yoy
  (zb0 _) (zb0 _) (zb0 _) (fun p hp=>by(simp at hp;done) ) (fun p hp=>by(simp at hp;rcases hp with rfl|rfl<;>exact⟨_,_,rfl⟩) )
  (fun k hk=>by
    have hk:k=0∨k=1:=by obtain⟨x,h⟩:=hk;simp at h;omega
    rcases hk with rfl|rfl
    · exact yj4
    · exact yg5)
  (fun k hk=>by
    have hk:k=0∨k=1:=by obtain⟨x,h⟩:=hk;simp at h;omega
    rcases hk with rfl|rfl
    · exact ycj
    · exact yci)
  (fun k hk=>by
    have hk:k=0∨k=1:=by obtain⟨x,h⟩:=hk;simp at h;omega
    rcases hk with rfl|rfl
    · exact yg4
    · exact ych)
  (fun k hk=>by
    have hk:k=0∨k=1:=by obtain⟨x,h⟩:=hk;simp at h;omega
    rcases hk with rfl|rfl
    · exact yg3
    · exact ycg)).mono fun ae h=>h.trans ?_
 kernel_rfl
theorem ynz:DPR 114 [.agg [.rmp [],.bool true,.nils],zaz [(0,.agg (zal false [2])),(1,.agg (zal false [1]))] true [0,1,2]] (· = .ret (.tup [zaz [(0,.agg (zal false [2])),(1,.agg (zal false [1]))] true [0,1,2],.bool true])):=by
 refine zg4 (args2:=[zaz [] true [],zaz [(0,.agg (zal false [2])),(1,.agg (zal false [1]))] true [0,1,2]]) ⟨.inl (.inr ⟨_,_,rfl,rfl,.r,.r,.n,trivial⟩),.inl .r,trivial⟩ ?_;refine (zl7 [] [(0,.agg (zal false [2])),(1,.agg (zal false [1]))] (by simp[RisK]) (by simp[RisK]) _ _ _ _ (zed [(0,false,[2]),(1,false,[1])]) (zed [(0,true,[]),(1,true,[])]) (zed [(0,false,[2]),(1,false,[1])]) (zqt [(0,false),(1,false)]) true [0,1,2] ykm ykl
  (zb0 _) (zb0 _) (zb0 _) (fun p hp=>by(simp at hp;done) ) (fun p hp=>by(simp at hp;rcases hp with rfl|rfl<;>exact⟨_,_,rfl⟩) )
  (fun k hk=>by
    have hk:k=0∨k=1:=by obtain⟨x,h⟩:=hk;simp at h;omega
    rcases hk with rfl|rfl
    · exact yj4
    · exact yg5)
  (fun k hk=>by
    have hk:k=0∨k=1:=by obtain⟨x,h⟩:=hk;simp at h;omega
    rcases hk with rfl|rfl
    · exact ycf
    · exact yce)
  (fun k hk=>by
    have hk:k=0∨k=1:=by obtain⟨x,h⟩:=hk;simp at h;omega
    rcases hk with rfl|rfl
    · exact ykk
    · exact ych)
  (fun k hk=>by
    have hk:k=0∨k=1:=by obtain⟨x,h⟩:=hk;simp at h;omega
    rcases hk with rfl|rfl
    · exact ykj
    · exact ycg)).mono fun ae h=>h.trans ?_
 kernel_rfl
theorem yny:DPR 114 [zaz [(0,.agg (zal false [0]))] true [0],zaz [(0,.agg (zal false [0]))] true [0]] (· = .ret (.tup [zaz [(0,.agg (zal false [0]))] true [0],.bool false])):=by
 refine zg4 (args2:=[zaz [(0,.agg (zal false [0]))] true [0],zaz [(0,.agg (zal false [0]))] true [0]]) ⟨.inl .r,.inl .r,trivial⟩ ?_;refine (ziz [(0,.agg (zal false [0]))] [(0,.agg (zal false [0]))] (by simp[RisK]) (by simp[RisK]) _ _ _ _ (zed [(0,false,[0])]) (zed [(0,false,[0])]) (zed [(0,false,[0])]) (zqt [(0,true)]) true [0] yki ykh
  (zb0 _) (zb0 _) (zb0 _) (fun p hp=>by(simp at hp;rcases hp with rfl|rfl<;>exact⟨_,_,rfl⟩) ) (fun p hp=>by(simp at hp;rcases hp with rfl|rfl<;>exact⟨_,_,rfl⟩) )
  (fun k hk=>by
    have hk:k=0:=by obtain⟨x,h⟩:=hk;simp at h;omega
    rcases hk with rfl
    · exact yj3)
  (fun k hk=>by
    have hk:k=0:=by obtain⟨x,h⟩:=hk;simp at h;omega
    rcases hk with rfl
    · exact yj3)
  (fun k hk=>by
    have hk:k=0:=by obtain⟨x,h⟩:=hk;simp at h;omega
    rcases hk with rfl
    · exact ycd)
  (fun k hk=>by
    have hk:k=0:=by obtain⟨x,h⟩:=hk;simp at h;omega
    rcases hk with rfl
    · exact ycc)).mono fun ae h=>h.trans ?_
 kernel_rfl
theorem ynx:DPR 114 [zaz [(0,.agg (zal false [0])),(1,.agg (zal false [1]))] true [0,1],zaz [(0,.agg (zal false [0])),(1,.agg (zal false [1]))] true [0,1]] (· = .ret (.tup [zaz [(0,.agg (zal false [0])),(1,.agg (zal false [1]))] true [0,1],.bool false])):=by
 refine zg4 (args2:=[zaz [(0,.agg (zal false [0])),(1,.agg (zal false [1]))] true [0,1],zaz [(0,.agg (zal false [0])),(1,.agg (zal false [1]))] true [0,1]]) ⟨.inl .r,.inl .r,trivial⟩ ?_;refine (ziz [(0,.agg (zal false [0])),(1,.agg (zal false [1]))] [(0,.agg (zal false [0])),(1,.agg (zal false [1]))] (by simp[RisK]) (by simp[RisK]) _ _ _ _ (zed [(0,false,[0]),(1,false,[1])]) (zed [(0,false,[0]),(1,false,[1])]) (zed [(0,false,[0]),(1,false,[1])]) (zqt [(0,true),(1,true)]) true [0,1] ykg ykf
  (zb0 _) (zb0 _) (zb0 _) (fun p hp=>by(simp at hp;rcases hp with rfl|rfl<;>exact⟨_,_,rfl⟩) ) (fun p hp=>by(simp at hp;rcases hp with rfl|rfl<;>exact⟨_,_,rfl⟩) )
  (fun k hk=>by
    have hk:k=0∨k=1:=by obtain⟨x,h⟩:=hk;simp at h;omega
    rcases hk with rfl|rfl
    · exact ycj
    · exact yci)
  (fun k hk=>by
    have hk:k=0∨k=1:=by obtain⟨x,h⟩:=hk;simp at h;omega
    rcases hk with rfl|rfl
    · exact ycj
    · exact yci)
  (fun k hk=>by
    have hk:k=0∨k=1:=by obtain⟨x,h⟩:=hk;simp at h;omega
    rcases hk with rfl|rfl
    · exact ycd
    · exact ycb)
  (fun k hk=>by
    have hk:k=0∨k=1:=by obtain⟨x,h⟩:=hk;simp at h;omega
    rcases hk with rfl|rfl
    · exact ycc
    · exact yca)).mono fun ae h=>h.trans ?_
 kernel_rfl
theorem ynw:DPR 114 [zaz [(0,.agg (zal false [2])),(1,.agg (zal false [1]))] true [0,1,2],zaz [(0,.agg (zal false [2])),(1,.agg (zal false [1]))] true [0,1,2]] (· = .ret (.tup [zaz [(0,.agg (zal false [2])),(1,.agg (zal false [1]))] true [0,1,2],.bool false])):=by
 refine zg4 (args2:=[zaz [(0,.agg (zal false [2])),(1,.agg (zal false [1]))] true [0,1,2],zaz [(0,.agg (zal false [2])),(1,.agg (zal false [1]))] true [0,1,2]]) ⟨.inl .r,.inl .r,trivial⟩ ?_;refine (ziz [(0,.agg (zal false [2])),(1,.agg (zal false [1]))] [(0,.agg (zal false [2])),(1,.agg (zal false [1]))] (by simp[RisK]) (by simp[RisK]) _ _ _ _ (zed [(0,false,[2]),(1,false,[1])]) (zed [(0,false,[2]),(1,false,[1])]) (zed [(0,false,[2]),(1,false,[1])]) (zqt [(0,true),(1,true)]) true [0,1,2] yke ykd
  (zb0 _) (zb0 _) (zb0 _) (fun p hp=>by(simp at hp;rcases hp with rfl|rfl<;>exact⟨_,_,rfl⟩) ) (fun p hp=>by(simp at hp;rcases hp with rfl|rfl<;>exact⟨_,_,rfl⟩) )
  (fun k hk=>by
    have hk:k=0∨k=1:=by obtain⟨x,h⟩:=hk;simp at h;omega
    rcases hk with rfl|rfl
    · exact ycf
    · exact yce)
  (fun k hk=>by
    have hk:k=0∨k=1:=by obtain⟨x,h⟩:=hk;simp at h;omega
    rcases hk with rfl|rfl
    · exact ycf
    · exact yce)
  (fun k hk=>by
    have hk:k=0∨k=1:=by obtain⟨x,h⟩:=hk;simp at h;omega
    rcases hk with rfl|rfl
    · exact ykc
    · exact ycb)
  (fun k hk=>by
    have hk:k=0∨k=1:=by obtain⟨x,h⟩:=hk;simp at h;omega
    rcases hk with rfl|rfl
    · exact ykb
    · exact yca)).mono fun ae h=>h.trans ?_
 kernel_rfl
theorem ynb:DPR 116 [.agg [.rmp [],.bool true,.nils],i64 0,i64 0] (· = .ret (zaz [(0,.agg (zal false [0]))] true [0])):=by
 refine(ydr [] (by simp[RisK]) _ 0 0 (zed []) true [0] yka (fun p hp=>by(simp at hp;done) ) (zb0 _) (fun k x hk=>by cases hk)).mono fun ae h=>h.trans ?_
 kernel_rfl
theorem yna:DPR 116 [zaz [(0,.agg (zal false [0]))] true [0],i64 1,i64 1] (· = .ret (zaz [(0,.agg (zal false [0])),(1,.agg (zal false [1]))] true [0,1])):=by
 refine (zui [(0, .agg (zal false [0]))] (by simp [RisK]) _ _ 1 1 (zed [(0, false, [0])]) true [0, 1] yj9 (fun p hp => by first | (simp at hp; done) | (simp at hp; rcases hp with rfl | rfl <;> exact ⟨_, _, rfl⟩) | (simp at hp; subst hp; exact ⟨_, _, rfl⟩)) (zb0 _) (fun k x hk=>by
  simp only[List.mem_cons,Prod.mk.injEq,List.not_mem_nil,or_false] at hk;rcases hk with⟨rfl,rfl⟩
  · exact yj8)).mono fun ae h=>h.trans ?_
 kernel_rfl
theorem ym9:DPR 116 [zaz [(0,.agg (zal false [0])),(1,.agg (zal false [1]))] true [0,1],i64 2,i64 0] (· = .ret (zaz [(0,.agg (zal false [2])),(1,.agg (zal false [1]))] true [0,1,2])):=by
 refine (zui [(0, .agg (zal false [0])), (1, .agg (zal false [1]))] (by simp [RisK]) _ _ 2 0 (zed [(0, false, [0]), (1, false, [1])]) true [0, 1, 2] yj7 (fun p hp => by first | (simp at hp; done) | (simp at hp; rcases hp with rfl | rfl <;> exact ⟨_, _, rfl⟩) | (simp at hp; subst hp; exact ⟨_, _, rfl⟩)) (zb0 _) (fun k x hk=>by
  simp only[List.mem_cons,Prod.mk.injEq,List.not_mem_nil,or_false] at hk;rcases hk with⟨rfl,rfl⟩|⟨rfl,rfl⟩
  · exact yj6
  · exact yj5)).mono fun ae h=>h.trans ?_
 kernel_rfl
def yi3:List KRow:=[(114,[.agg [.rmp [],.bool true,.nils],.agg [.rmp [],.bool true,.nils]],.tup [zaz [] true [],.bool false]),
 (114,[.agg [.rmp [],.bool true,.nils],zaz [(0,.agg (zal false [0]))] true [0]],.tup [zaz [(0,.agg (zal false [0]))] true [0],.bool true]),
 (114,[.agg [.rmp [],.bool true,.nils],zaz [(0,.agg (zal false [0])),(1,.agg (zal false [1]))] true [0,1]],.tup [zaz [(0,.agg (zal false [0])),(1,.agg (zal false [1]))] true [0,1],.bool true]),
 (114,[.agg [.rmp [],.bool true,.nils],zaz [(0,.agg (zal false [2])),(1,.agg (zal false [1]))] true [0,1,2]],.tup [zaz [(0,.agg (zal false [2])),(1,.agg (zal false [1]))] true [0,1,2],.bool true]),
 (114,[zaz [(0,.agg (zal false [0]))] true [0],zaz [(0,.agg (zal false [0]))] true [0]],.tup [zaz [(0,.agg (zal false [0]))] true [0],.bool false]),
 (114,[zaz [(0,.agg (zal false [0])),(1,.agg (zal false [1]))] true [0,1],zaz [(0,.agg (zal false [0])),(1,.agg (zal false [1]))] true [0,1]],.tup [zaz [(0,.agg (zal false [0])),(1,.agg (zal false [1]))] true [0,1],.bool false]),
 (114,[zaz [(0,.agg (zal false [2])),(1,.agg (zal false [1]))] true [0,1,2],zaz [(0,.agg (zal false [2])),(1,.agg (zal false [1]))] true [0,1,2]],.tup [zaz [(0,.agg (zal false [2])),(1,.agg (zal false [1]))] true [0,1,2],.bool false]),
 (116,[.agg [.rmp [],.bool true,.nils],i64 0,i64 0],zaz [(0,.agg (zal false [0]))] true [0]),
 (116,[zaz [(0,.agg (zal false [0]))] true [0],i64 1,i64 1],zaz [(0,.agg (zal false [0])),(1,.agg (zal false [1]))] true [0,1]),
 (116,[zaz [(0,.agg (zal false [0])),(1,.agg (zal false [1]))] true [0,1],i64 2,i64 0],zaz [(0,.agg (zal false [2])),(1,.agg (zal false [1]))] true [0,1,2])]
theorem yeo:∀r∈yi3,DPR r.1 r.2.1 (· = .ret r.2.2):=by
 intro r hr;simp only[yi3,List.mem_cons,List.not_mem_nil,or_false] at hr;rcases hr with rfl|rfl|rfl|rfl|rfl|rfl|rfl|rfl|rfl|rfl
 · exact yn2
 · exact yn1
 · exact yn0
 · exact ynz
 · exact yny
 · exact ynx
 · exact ynw
 · exact ynb
 · exact yna
 · exact ym9
def sampleV:AV := .agg [.rsl 7 [[.str [77,65,73,78],i64 (-1),i64 0,i64 16,.nils,.nils,.nils]],i64 0,.nils,.rsl 2 [[.str [83,89,83,80,82,73,78,84],i64 2]],.nils,.nils,.rsl 2 [[i64 3,.rsl 29 [[i64 1,i64 (-1),i64 (-1),i64 (-1),i64 0,i64 0,i64 0,.bool false,.str [],i64 0,i64 0,i64 0,.bool false,.str [],i64 0,i64 0,i64 0,.bool false,.str [],i64 10,i64 0,i64 0,i64 0,.str [],.nils,.nils,.nils,.bool false,.bool false],[i64 2,i64 0,i64 (-1),i64 (-1),i64 2,i64 15,i64 0,.bool false,.str [],i64 0,i64 0,i64 0,.bool false,.str [],i64 0,i64 0,i64 0,.bool false,.str [],i64 0,i64 0,i64 0,i64 7,.str [],.nils,.nils,.nils,.bool false,.bool false],[i64 4,i64 1,i64 (-1),i64 (-1),i64 0,i64 0,i64 0,.bool false,.str [],i64 0,i64 0,i64 0,.bool false,.str [],i64 0,i64 0,i64 0,.bool false,.str [],i64 1,i64 0,i64 0,i64 0,.str [],.nils,.nils,.nils,.bool false,.bool false],[i64 9,i64 (-1),i64 1,i64 0,i64 2,i64 15,i64 0,.bool false,.str [],i64 0,i64 0,i64 0,.bool false,.str [],i64 0,i64 0,i64 0,.bool false,.str [],i64 0,i64 0,i64 0,i64 0,.str [],.nils,.nils,.nils,.bool false,.bool false],[i64 1,i64 (-1),i64 (-1),i64 (-1),i64 0,i64 0,i64 0,.bool false,.str [],i64 0,i64 0,i64 0,.bool false,.str [],i64 0,i64 0,i64 0,.bool false,.str [],i64 20,i64 0,i64 0,i64 0,.str [],.nils,.nils,.nils,.bool false,.bool false],[i64 8,i64 2,i64 1,i64 (-1),i64 2,i64 15,i64 0,.bool false,.str [],i64 0,i64 0,i64 0,.bool false,.str [],i64 0,i64 0,i64 0,.bool false,.str [],i64 0,i64 0,i64 0,i64 0,.str [],.nils,.nils,.nils,.bool false,.bool false],[i64 27,i64 (-1),i64 (-1),i64 (-1),i64 0,i64 0,i64 0,.bool false,.str [],i64 0,i64 0,i64 0,.bool false,.str [],i64 0,i64 0,i64 0,.bool false,.str [],i64 0,i64 0,i64 0,i64 0,.str [],.nils,.rsl 1 [[i64 2]],.rsl 5 [[i64 2,i64 15,i64 0,.bool false,.str []]],.bool false,.bool false]]]]]
theorem zwx:DPR 20 [] (· = .ret sampleV):=yaj (T:=[]) (n:=40) (fun _ h=>by cases h) (by kernel_rfl)
theorem zbx:DPR 14 [sampleV] (· = .ret (i64 0)):=yaj (T:=[]) (n:=40) (fun _ h=>by cases h) (by kernel_rfl)
def zyt:AV := .agg [.rsl 7 [[.str [77,65,73,78],i64 (-1),i64 0,i64 16,.nils,.nils,.nils]],i64 0,.nils,.rsl 2 [[.str [83,89,83,80,82,73,78,84],i64 2]],.nils,.nils,.rsl 2 [[i64 7,.rsl 29 [[i64 1,i64 (-1),i64 (-1),i64 (-1),i64 0,i64 0,i64 0,.bool false,.str [],i64 0,i64 0,i64 0,.bool false,.str [],i64 0,i64 0,i64 0,.bool false,.str [],i64 10,i64 0,i64 0,i64 0,.str [],.nils,.nils,.nils,.bool false,.bool false],[i64 2,i64 4,i64 (-1),i64 (-1),i64 2,i64 15,i64 0,.bool false,.str [],i64 0,i64 0,i64 0,.bool false,.str [],i64 0,i64 0,i64 0,.bool false,.str [],i64 0,i64 0,i64 0,i64 7,.str [],.nils,.nils,.nils,.bool false,.bool false],[i64 4,i64 2,i64 (-1),i64 (-1),i64 0,i64 0,i64 0,.bool false,.str [],i64 0,i64 0,i64 0,.bool false,.str [],i64 0,i64 0,i64 0,.bool false,.str [],i64 1,i64 0,i64 0,i64 0,.str [],.nils,.nils,.nils,.bool false,.bool false],[i64 3,i64 5,i64 2,i64 (-1),i64 0,i64 0,i64 0,.bool false,.str [],i64 0,i64 0,i64 0,.bool false,.str [],i64 0,i64 0,i64 0,.bool false,.str [],i64 0,i64 0,i64 0,i64 0,.str [],.nils,.nils,.nils,.bool false,.bool false],[i64 3,i64 0,i64 5,i64 (-1),i64 0,i64 0,i64 0,.bool false,.str [],i64 0,i64 0,i64 0,.bool false,.str [],i64 0,i64 0,i64 0,.bool false,.str [],i64 0,i64 0,i64 0,i64 0,.str [],.nils,.nils,.nils,.bool false,.bool false],[i64 9,i64 (-1),i64 0,i64 4,i64 2,i64 15,i64 0,.bool false,.str [],i64 0,i64 0,i64 0,.bool false,.str [],i64 0,i64 0,i64 0,.bool false,.str [],i64 0,i64 0,i64 0,i64 0,.str [],.nils,.nils,.nils,.bool false,.bool false],[i64 1,i64 (-1),i64 (-1),i64 (-1),i64 0,i64 0,i64 0,.bool false,.str [],i64 0,i64 0,i64 0,.bool false,.str [],i64 0,i64 0,i64 0,.bool false,.str [],i64 20,i64 0,i64 0,i64 0,.str [],.nils,.nils,.nils,.bool false,.bool false],[i64 3,i64 0,i64 5,i64 (-1),i64 0,i64 0,i64 0,.bool false,.str [],i64 0,i64 0,i64 0,.bool false,.str [],i64 0,i64 0,i64 0,.bool false,.str [],i64 0,i64 0,i64 0,i64 0,.str [],.nils,.nils,.nils,.bool false,.bool false],[i64 8,i64 6,i64 0,i64 (-1),i64 2,i64 15,i64 0,.bool false,.str [],i64 0,i64 0,i64 0,.bool false,.str [],i64 0,i64 0,i64 0,.bool false,.str [],i64 0,i64 0,i64 0,i64 0,.str [],.nils,.nils,.nils,.bool false,.bool false],[i64 27,i64 (-1),i64 (-1),i64 (-1),i64 0,i64 0,i64 0,.bool false,.str [],i64 0,i64 0,i64 0,.bool false,.str [],i64 0,i64 0,i64 0,.bool false,.str [],i64 0,i64 0,i64 0,i64 0,.str [],.nils,.rsl 1 [[i64 6]],.rsl 5 [[i64 2,i64 15,i64 0,.bool false,.str []]],.bool false,.bool false]]]]]
theorem ztu:DPR 14 [zyt] (· = .ret (i64 0)):=yaj (T:=[]) (n:=40) (fun _ h=>by cases h) (by kernel_rfl)
def alloC:AV := .agg [.rsl 7 [[.str [77,65,73,78],i64 (-1),i64 0,i64 16,.nils,.nils,.nils]],i64 0,.nils,.rsl 2 [[.str [83,89,83,80,82,73,78,84],i64 2]],.nils,.nils,.rsl 2 [[i64 4,.rsl 29 [[i64 1,i64 (-1),i64 (-1),i64 (-1),i64 0,i64 0,i64 0,.bool false,.str [],i64 0,i64 0,i64 0,.bool false,.str [],i64 0,i64 0,i64 0,.bool false,.str [],i64 10,i64 0,i64 0,i64 0,.str [],.nils,.nils,.nils,.bool false,.bool false],[i64 2,i64 0,i64 (-1),i64 (-1),i64 2,i64 15,i64 0,.bool false,.str [],i64 0,i64 0,i64 0,.bool false,.str [],i64 0,i64 0,i64 0,.bool false,.str [],i64 0,i64 0,i64 0,i64 7,.str [],.nils,.nils,.nils,.bool false,.bool false],[i64 4,i64 1,i64 (-1),i64 (-1),i64 0,i64 0,i64 0,.bool false,.str [],i64 0,i64 0,i64 0,.bool false,.str [],i64 0,i64 0,i64 0,.bool false,.str [],i64 1,i64 0,i64 0,i64 0,.str [],.nils,.nils,.nils,.bool false,.bool false],[i64 9,i64 (-1),i64 1,i64 0,i64 2,i64 15,i64 0,.bool false,.str [],i64 0,i64 0,i64 0,.bool false,.str [],i64 0,i64 0,i64 0,.bool false,.str [],i64 0,i64 0,i64 0,i64 0,.str [],.nils,.nils,.nils,.bool false,.bool false],[i64 1,i64 (-1),i64 (-1),i64 (-1),i64 0,i64 0,i64 0,.bool false,.str [],i64 0,i64 0,i64 0,.bool false,.str [],i64 0,i64 0,i64 0,.bool false,.str [],i64 20,i64 0,i64 0,i64 0,.str [],.nils,.nils,.nils,.bool false,.bool false],[i64 8,i64 0,i64 1,i64 (-1),i64 2,i64 15,i64 0,.bool false,.str [],i64 0,i64 0,i64 0,.bool false,.str [],i64 0,i64 0,i64 0,.bool false,.str [],i64 0,i64 0,i64 0,i64 0,.str [],.nils,.nils,.nils,.bool false,.bool false],[i64 27,i64 (-1),i64 (-1),i64 (-1),i64 0,i64 0,i64 0,.bool false,.str [],i64 0,i64 0,i64 0,.bool false,.str [],i64 0,i64 0,i64 0,.bool false,.str [],i64 0,i64 0,i64 0,i64 0,.str [],.nils,.rsl 1 [[i64 0]],.rsl 5 [[i64 2,i64 15,i64 0,.bool false,.str []]],.bool false,.bool false]]]]]
theorem zoi:DPR 14 [alloC] (· = .ret (i64 0)):=yaj (T:=[]) (n:=40) (fun _ h=>by cases h) (by kernel_rfl)
end Go.Ago
namespace Go.Ago
open Go.Proofs
attribute [local irreducible] ltI leI eqI eqS shrI wr inB mmI comp DC DP DW DV
def accV (nm sz:Nat)(rows:List (List AV)):AV:=match rows with
 | [] => .nils
 | _::rs => .slc nm 0 (rs.length+1) sz
def accH (nm sz:Nat)(rows:List (List AV)):List (Nat×AObj):=match rows with
 | []=>[]
 | r::rs=>[(nm,.arr sz (r::rs))]
theorem zat {k k' i i' n n' s s':Nat}(h1:k=k')(h2:i=i')(h3:n=n')(h4:s=s'):AV.slc k i n s=AV.slc k' i' n' s':=by subst h1;subst h2;subst h3;subst h4;rfl
theorem za4 {s s':Nat}{e e':List (List AV)}(h1:s=s')(h2:e=e'):AObj.arr s e=AObj.arr s' e':=by subst h1;subst h2;rfl
theorem zcg (B m:Nat){i len el add by_:Nat}(h3:i+len≤el)(ha:add=1)(hb:by_=B)(hl:len≤m)(h4:(m+1) * (B+1)≤140737488355328) :
 (Nat.ble (i+len) el && Nat.ble ((len+add) * (by_+1)) 140737488355328)=true:=by
 subst ha;subst hb;rw[Nat.ble_eq_true_of_le h3,Nat.ble_eq_true_of_le (Nat.le_trans (Nat.mul_le_mul_right _ (Nat.succ_le_succ hl)) h4)];rfl
theorem za7 {α:Type}{f:α→List AV}{ρ:Nat→Nat}(hf:∀x,(f x).map (AV.r1 ρ)=f x){y t:α}{acc:List α}{new:List (List AV)}(hn:new=[f t]){n:Nat}(h:n=acc.length+1) :
 List.take n (List.drop 0 (f y::acc.map f))++new=(f y::(acc++[t]).map f).map (List.map (AV.r1 ρ)):=by
 subst hn;subst h;have h1:List.take acc.length (acc.map f)=acc.map f:=List.take_of_length_le (by simp)
 simp[hf,Function.comp_def,h1]
theorem zaj {α:Type}{f:α→List AV}{n sz:Nat}(hf:∀x,(f x).all (AV.l1 n)=true){y:α}{acc:List α}:AObj.lt n (.arr sz (f y::acc.map f)):=by
 show(List.all _ _)=true;simp[hf]
theorem zl9 {α:Type}{f:α→Option α}:∀{l:List α},(∀x∈l,f x=some x)→mapO f l=some l
 | [],_=>rfl
 | x :: l, h => by
   simp only[mapO,h x (by simp),zl9 (l:=l) fun y hy=>h y (by simp[hy])]
theorem zbf {α:Type}{f:α→List AV}{H:zah}{k sz n:Nat}{y:α}{acc:List α}(hf:∀x,mapO (snap H n) (f x)=some (f x))(hH:H.get k=some (.arr sz (f y::acc.map f))) :
 snap H (n+1) (.slc k 0 ((acc.map f).length+1) sz)=some (.rsl sz (f y::acc.map f)):=by
 have h2:mapO (mapO (snap H n)) (f y::acc.map f)=some (f y::acc.map f):=zl9 (by simp[hf])
 have h3:List.take ((acc.map f).length+1) (List.drop 0 (f y::acc.map f))=f y::acc.map f:=by rw[List.drop_zero];exact List.take_of_length_le (by simp)
 have h4:(sz == sz && Nat.ble (0+((acc.map f).length+1)) (f y::acc.map f).length)=true:=by simp
 simp only[snap,hH,h4,h3,h2]
theorem zin {α:Type}{f:α→List AV}{H:zah}{k sz:Nat}{y:α}{acc:List α}(hf:∀x,mapO (snap H 19) (f x)=some (f x))(hH:H.get k=some (.arr sz (f y::acc.map f))) :
 snap H 20 (.slc k 0 ((acc.map f).length+1) sz)=some (.rsl sz (f y::acc.map f)):=zbf hf hH
theorem wr32 {n:Int}(h : -2147483648≤n)(h':n<2147483648):wr .i32 n=n:=by
 unfold wr IntKind.wrap IntKind.bits IntKind.signed;simp only[Bool.true_and,decide_eq_true_eq];split<;>omega
theorem wr8 {n:Int}(h:0≤n)(h':n<256):wr .u8 n=n:=by
 unfold wr IntKind.wrap IntKind.bits IntKind.signed;simp only[Bool.false_and,Bool.false_eq_true,if_false];omega
theorem zuy (n:Int)(c:Int)(hn:0≤n∧n≤32):DPR 269 [i64 n,.int .i32 c] (fun ae=>∃(m:Int) (b:Bool),ae = .ret (.tup [i64 m,.bool b])∧(b=true→1≤m∧m≤32)):=by
 refine zaf eRg zae Tryz.func269 rfl (by decide) rfl rfl ?_
 conv=>whnf
 repeat' first
  | (refine Br.split (fun h=>?_) (fun h=>?_)<;>(try simp only[bz] at h)<;>(conv=>whnf))
 all_goals first|exact⟨_,_,rfl,fun h=>absurd h (by decide)⟩|(refine⟨_,_,rfl,fun _=>?_⟩;rw[wr64 (n:=10 * n) (by omega) (by omega),wr32 (n:=c - 48) (by omega) (by omega),wr64 (n:=c - 48) (by omega) (by omega),wr64 (n:=10 * n+(c - 48)) (by omega) (by omega)] at h ⊢;omega)
theorem yog (s r:BL UInt8):DPR 192 [.str s.l,.str r.l] (retB fun _=>True):=by
 refine zaf eRg zae Tryz.func192 rfl (by decide) rfl rfl ?_
 have hs:=s.h;have hr:=r.h
 conv=>whnf
 repeat' first
  | (refine Br.split (fun h=>?_) (fun h=>?_)<;>(try simp only[bz] at h)<;>(conv=>whnf))
 all_goals first|exact⟨_,rfl,trivial⟩|skip
 refine zai eRg zae [0,4,15,16] [] 0 (fun i:Nat=>[(17,i64 i)]) (fun _=>[]) [] (fun i=>r.l.length+1 - i) (0) ?_
 conv=>whnf
 refine⟨?_,fun i=>?_⟩
 · conv => whnf
   (repeat' first|exact True.intro|rfl|apply And.intro )
 conv=>whnf
 repeat' ((first|refine Rq.mk (by(first|rfl|((try simp only[rz]);omega))) ?_|refine Br.split (fun h=>?_) (fun h=>?_)<;>(try simp only[bz] at h)<;>try (exfalso;omega)|refine Ok3.mk _ (zam (by omega)) ?_)<;>conv=>whnf)
 all_goals first|exact⟨_,rfl,trivial⟩|(refine⟨i+1,(by(conv=>whnf);(repeat' first|exact True.intro|rfl|apply And.intro|(refine cw ?_ ?_ ?_<;>(try dsimp only)<;>omega) )),rfl,(by(try simp only[List.length_map] at *)<;>omega)⟩)
end Go.Ago
