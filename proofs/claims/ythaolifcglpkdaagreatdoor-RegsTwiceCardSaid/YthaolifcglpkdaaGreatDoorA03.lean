/-
  Part A03: lemmas, each with its own conditions.
-/
import Derived.Test.YthaolifcglpkdaaGreatDoorA02
set_option maxRecDepth 100000
set_option maxHeartbeats 0
set_option linter.all false
namespace Go.Ago
open List Nat
inductive TD where
 | struct (fs:List (Nat×Nat×TypeId))
 | slice (e:TypeId)
 | array (n:Nat) (e:TypeId)
 | int (k:IntKind)
 | bool
 | string
 | iface
 | ptr
 | func
 | map (k e:TypeId)
 | other
 deriving Inhabited
structure TI where
 size:Nat
 bytes:Nat
 agg:Bool
 zero:List AV
 desc:TD
 kF:Bool
 deriving Inhabited
structure Env where
 ti:TypeId->Option TI
 bR:eZ
structure bk where
 val:AV
 up:List (Nat×Option an)
def bk.dH (H:ai):List (Nat×Option an)->ai
 | []=>H
 | (k,o)::l=>bk.dH (H.set 24 k o) l
inductive Rd where
 | ret (e:bk)
 | aR (v:AV)
 | rd (k:Nat) (f:an->Rd)
 | bZ (b:Bool) (r:Rd)
 | br (b:Bool) (r s:Rd)
 | opt (o:Option (List AV)) (f:List AV->Rd)
 | fail
def Rd.run (H:ai):Rd->Option (bk ⊕ AV)
 | .ret e=>some (.inl e)
 | .aR v=>some (.inr v)
 | .rd k f => match H.get k with
   | some o=>(f o).run H
   | none=>none
 | .bZ b r => match b with
   | true=>r.run H
   | false=>none
 | .br b r s => match b with
   | true=>r.run H
   | false=>s.run H
 | .opt o f => match o with
   | some e=>(f e).run H
   | none=>none
 | .fail=>none
def Rd.holds (H:ai)(K:bk->Prop)(Kp:AV->Prop):Rd->Prop
 | .ret e=>K e
 | .aR v=>Kp v
 | .rd k f => match H.get k with
   | some o=>(f o).holds H K Kp
   | none=>False
 | .bZ b r=>b=true∧r.holds H K Kp
 | .br b r s=>(b=true->r.holds H K Kp)∧(b=false->s.holds H K Kp)
 | .opt o f=>∃e,o=some e∧(f e).holds H K Kp
 | .fail=>False
theorem Rd.r7 {H:ai}{K:bk->Prop}{Kp:AV->Prop}:∀{r:Rd},r.holds H K Kp->(∃e,r.run H=some (.inl e)∧K e)∨(∃v,r.run H=some (.inr v)∧Kp v)
 | .ret e,h => .inl ⟨e,rfl,h⟩
 | .aR v,h => .inr ⟨v,rfl,h⟩
 | .rd k f, h => by
   simp only[holds] at h;simp only[run];cases e:H.get k with
   | none=>grind
   | some o=>rw[e] at h;exact r7 h
 | .bZ b r, h => by
   obtain⟨rfl,h⟩:=h;exact r7 (r:=r) h
 | .br b r s, h => by
   cases b with
   | true=>exact r7 (r:=r) (h.1 rfl)
   | false=>exact r7 (r:=s) (h.2 rfl)
 | .opt o f, h => by
   obtain⟨e,rfl,h⟩:=h;exact r7 (r:=f e) h
 | .fail,h=>h.elim
structure St where
 bo:Tr AV
 bF:Nat
 heap:ai
 next:Nat
def wA:Value->AV
 | .bool b => .bool b
 | .int k n => .int k n
 | .string s => .str s.data.toList
 | .pointer none => .dF
 | .slice none 0 0 => .ah
 | .map none => .fO
 | .nilFunc => .cZ
 | .nilIface => .eH
 | _ => .any
def AQ:Value->AV
 | .agg a => .agg (a.toList.map wA)
 | v=>wA v
def St.ev (E:Env)(S:St):Operand->AV
 | .tmp t => match S.bo.get t with
   | some x=>x
   | none => .any
 | .const v=>AQ v
 | .global g => match E.bR g with
   | some a => .bq a
   | none => .any
 | .func f => .fn (.func f) [] []
def iJ (v:AV)(k:Nat)(o:an):Rd := .bZ (ble (k+2) 16777216) (.ret ⟨v,[(k,some o)]⟩)
def cf (E:Env)(t:TypeId)(f:TI->Rd):Rd:=
 match E.ti t with
 | some i=>f i
 | none => .fail
def nr (i:TI)(cs:List AV)(off:Nat):Rd:=
 .bZ (ble (off + i.size) cs.length) (match i.agg with
  | true => .ret ⟨.agg ((cs.drop off).take i.size),[]⟩
  | false => match cs[off]? with
    | some x => .ret ⟨x,[]⟩
    | none => .fail)
def ke (f:Nat->List (List AV)->Rd):an->Rd
 | .arr b a=>f b a
 | _ => .fail
def yG (E:Env)(t:TypeId):AV->Rd
 | .ptr k i b=>cf E t fun a => .rd k <| ke fun _ d => .opt d[i]? fun e=>nr a e b
 | .bq c=>cf E t fun a=>nr a c 0
 | _ => .fail
def KK (E:Env)(t:TypeId)(a v:AV):Rd:=
 match a with
 | .ptr k i b=>cf E t fun d => .bZ (v.cells.length == d.size && v.cells.all AV.one) (.rd k <| ke fun g f => .opt f[i]? fun e => .bZ (ble (b+d.size) e.length) (.opt (some (lN e b v.cells)) fun c=>iJ .any k (.arr g (f.set i c))))
 | _ => .fail
def Ky (E:Env)(nm:Nat)(t:TypeId)(v:AV):Rd:=
 cf E t fun b => .bZ (v.cells.length == b.size && v.cells.all AV.one) (.opt (some v.cells) fun a=>iJ (.ptr nm 0 0) nm (.arr b.size [a]))
def Kw (E:Env)(nm:Nat)(t:TypeId):Rd:=
 cf E t fun a=>iJ (.ptr nm 0 0) nm (.arr a.size [a.zero])
def l7 (b:Nat->Option (Nat×Nat))(a:List AV):List (Nat×AV)->Option (List AV)
 | []=>some a
 | (i, v) :: d =>
   match b i with
   | none=>none
   | some (e, c) => match (v.cells.length == c && v.cells.all AV.one) && ble (e + c) a.length with
     | true=>l7 b (lN a e v.cells) d
     | false=>none
def Bf (c:List (Nat×Nat×TypeId))(i:Nat):Option (Nat×Nat):=
 match c[i]? with
 | some (a,b,_)=>some (a,b)
 | none=>none
def Kz (E:Env)(t:TypeId)(a:List (Nat×AV)):Rd:=
 cf E t fun b=>match b.desc with
  | .struct f => match l7 (Bf f) b.zero a with
    | some c => .ret ⟨.agg c,[]⟩
    | none => .fail
  | .array _ e => cf E e fun d => match l7 (fun i => some (i * d.size, d.size)) b.zero a with
    | some c => .ret ⟨.agg c,[]⟩
    | none => .fail
  | _ => .fail
def p5 (size:Nat)(es:List (List AV)):List (Nat×AV)->Option (List (List AV))
 | []=>some es
 | (i, v) :: a => match (v.cells.length == size && v.cells.all AV.one) && blt i es.length with
   | true=>p5 size (es.set i v.cells) a
   | false=>none
def KA (E:Env)(nm:Nat)(t:TypeId)(len:Nat)(a:List (Nat×AV)):Rd:=
 cf E t fun d=>match d.desc with
  | .slice e => cf E e fun b => .bZ (ble (len * b.size) 16777216 && blt 0 b.size) (match p5 b.size (replicate len b.zero) a with
    | some c=>iJ (.az nm 0 len b.size) nm (.arr b.size c)
    | none => .fail)
  | _ => .fail
def KC (E:Env)(t:TypeId)(x:AV)(f:Nat):Rd:=
 cf E t fun e=>match e.desc,x with
  | .struct c, .agg d => match c[f]? with
    | some (a,_,g)=>cf E g fun b=>nr b d a
    | none => .fail
  | _,_ => .fail
def KD (E:Env)(t:TypeId)(x:AV)(f:Nat):Rd:=
 cf E t fun d=>match d.desc with
  | .struct c => match c[f]? with
    | some (a, e, _) => .bZ (blt 0 e) (match x with
      | .ptr k i o => .ret ⟨.ptr k i (o+a),[]⟩
      | .bq b => .ret ⟨.bq (b.drop a),[]⟩
      | _ => .fail)
    | none => .fail
  | _ => .fail
def bp (n:Int)(len:Nat):Bool:=decide (0≤n) && decide (n<len)
def chunk (cs:List AV)(off n:Nat):Option (List AV):=
 match ble (off+n) cs.length with
 | true=>some ((cs.drop off).take n)
 | false=>none
def yF (E:Env)(t:TypeId)(x j:AV):Rd:=
 cf E t fun h=>match h.desc,j with
  | .slice e, .int _ n => cf E e fun b => match x with
    | .az k i a f => .bZ (f == b.size && bp n a) (.ret ⟨.ptr k (i+n.toNat) 0,[]⟩)
    | .ak f g => .bZ (f == b.size && bp n g.length) (.opt g[n.toNat]? fun d => .ret ⟨.bq d,[]⟩)
    | _ => .fail
  | .array a e, .int _ n => cf E e fun b => match x with
    | .ptr k i c => .bZ (bp n a) (.ret ⟨.ptr k i (c+n.toNat * b.size),[]⟩)
    | .bq d => .bZ (bp n a) (.opt (chunk d (n.toNat * b.size) b.size) fun e => .ret ⟨.bq e,[]⟩)
    | _ => .fail
  | _,_ => .fail
def yE (E:Env)(t:TypeId)(x d:AV):Rd:=
 cf E t fun c=>match c.desc,d,x with
  | .array b e,.int _ n,.agg f=>cf E e fun a => .bZ (bp n b) (.opt (chunk f (n.toNat * a.size) a.size) fun e=>nr a e 0)
  | .string,.int _ n,.str l => .bZ (bp n l.length) (.ret ⟨.int .u8 (l.getD n.toNat 0).toNat,[]⟩)
  | _,_,_ => .fail
def du (d:Int):Option AV->Option Int
 | none=>some d
 | some (.int _ n)=>some n
 | some _=>none
def jy (a b n:Int):Bool:=decide (0≤a) && decide (a≤b) && decide (b≤n)
def nP (E:Env)(t:TypeId)(x:AV)(lo hi mx:Option AV):Rd:=
 cf E t fun h=>match h.desc,x with
  | .string, .str l => match mx, du 0 lo, du l.length hi with
    | none,some a,some b => .bZ (jy a b l.length) (.ret ⟨.str ((l.drop a.toNat).take (b.toNat - a.toNat)),[]⟩)
    | _,_,_ => .fail
  | .slice e, .ah => cf E e fun _ => match mx, du 0 lo, du 0 hi with
    | none,some a,some b => .bZ (jy a b 0) (.ret ⟨.ah,[]⟩)
    | _,_,_ => .fail
  | .slice e, .cW => cf E e fun _ => match mx, du 0 lo, du 0 hi with
    | none,some a,some b => .bZ (jy a b 0) (.ret ⟨.cW,[]⟩)
    | _,_,_ => .fail
  | .slice e, .az k i c d => cf E e fun g => .bZ (d == g.size) (match du 0 lo, du c hi with
    | some a, some b => match mx, hi with
      | none,_ => .bZ (jy a b c) (.ret ⟨.az k (i+a.toNat) (b.toNat - a.toNat) d,[]⟩)
      | some (.int _ m),some _ => .bZ (jy a b m && decide (m≤c)) (.br (decide (a=m)) (.ret ⟨.cW,[]⟩) (.ret ⟨.az k (i+a.toNat) (b.toNat - a.toNat) d,[]⟩))
      | _,_ => .fail
    | _,_ => .fail)
  | .slice e, .ak d f => cf E e fun g => .bZ (d == g.size) (match du 0 lo, du f.length hi with
    | some a, some b => match mx, hi with
      | none,_ => .bZ (jy a b f.length) (.ret ⟨.ak d ((f.drop a.toNat).take (b.toNat - a.toNat)),[]⟩)
      | some (.int _ m),some _ => .bZ (jy a b m && decide (m≤f.length)) (.br (decide (a=m)) (.ret ⟨.cW,[]⟩) (.ret ⟨.ak d ((f.drop a.toNat).take (b.toNat - a.toNat)),[]⟩))
      | _,_ => .fail
    | _,_ => .fail)
  | _,_ => .fail
def dS (c:BinOp)(k:IntKind)(x y:Int):Int:=
 let a:=BitVec.ofInt k.bits x
 let b:=BitVec.ofInt k.bits y
 match c with
 | .and=>k.wrap (a &&& b).toNat
 | .or=>k.wrap (a ||| b).toNat
 | .xor=>k.wrap (a ^^^ b).toNat
 | _=>k.wrap (a &&& ~~~b).toNat
def bN (a b:Int):Bool:=decide (a<b)
def bM (a b:Int):Bool:=decide (a≤b)
def aZ (a b:Int):Bool:=a == b
def bK (a b:List UInt8):Bool:=a == b
def b_ (a b:Int)(k:IntKind):Int:=a.fdiv (2 ^ min b.toNat k.bits)
def wr (k:IntKind)(n:Int):Int:=k.wrap n
def ff (E:Env):Nat->TypeId->List AV->List AV->Option Bool
 | 0,_,_,_=>none
 | d + 1, t, g, c =>
   match E.ti t with
   | none=>none
   | some p => match p.kF with
     | false=>none
     | true => match p.desc with
       | .int _ => match g, c with
         | [.int k a], [.int r b] => match decide (k = r) with
           | true=>some (a == b)
           | false=>none
         | _,_=>none
       | .bool => match g, c with
         | [.bool a],[.bool b]=>some (a == b)
         | _,_=>none
       | .string => match g, c with
         | [.str a],[.str b]=>some (a == b)
         | _,_=>none
       | .struct o=>eqF (ff E d) o g c
       | .array n e => match E.ti e with
         | some q=>eqF (ff E d) ((List.range n).map fun i=>(i * q.size,q.size,e)) g c
         | none=>none
       | _=>none
where
 eqF (f:TypeId->List AV->List AV->Option Bool):List (Nat×Nat×TypeId)->List AV->List AV->Option Bool
  | [],_,_=>some true
  | (h, l, t) :: o, g, c =>
    match ble (h+l) g.length && ble (h+l) c.length with
    | false=>none
    | true => match f t ((g.drop h).take l) ((c.drop h).take l), eqF f o g c with
      | some a,some b=>some (a && b)
      | _,_=>none
def eV (b:Bool)(x:Bool):Bool:=match b with
 | true=>!x
 | false=>x
def isNil:AV->Option Bool
 | .ah=>some true
 | .az _ _ _ _=>some false
 | .ak _ (_::_)=>some false
 | _=>none
def vb (E:Env)(neq:Bool)(t:TypeId)(d:Bool)(x y:AV):Rd:=
 cf E t fun f=>match f.desc with
  | .bool => match x, y with
    | .bool a,.bool b => .ret ⟨.bool (eV neq (a == b)),[]⟩
    | _,_ => .fail
  | .ptr => match x, y with
    | .dF,.dF => .ret ⟨.bool (eV neq true),[]⟩
    | .dF,.ptr _ _ _ | .dF,.bq _ | .ptr _ _ _,.dF | .bq _,.dF => .ret ⟨.bool (eV neq false),[]⟩
    | _,_ => .fail
  | .slice _ => match isNil x, isNil y with
    | some true,some b => .ret ⟨.bool (eV neq b),[]⟩
    | some b,some true => .ret ⟨.bool (eV neq b),[]⟩
    | _,_ => .fail
  | .func => match x, y with
    | .cZ,.cZ => .ret ⟨.bool (eV neq true),[]⟩
    | .cZ,.fn _ _ _ | .fn _ _ _,.cZ => .ret ⟨.bool (eV neq false),[]⟩
    | _,_ => .fail
  | .iface => match x, y with
    | .eH, .eH => match d with
      | true => .ret ⟨.bool (eV neq true),[]⟩
      | false => .fail
    | .eH,.cG _ _ | .cG _ _,.eH => .ret ⟨.bool (eV neq false),[]⟩
    | _,_ => .fail
  | .struct _ => match x, y with
    | .agg e, .agg c => match ff E 10 t e c with
      | some b => .ret ⟨.bool (eV neq b),[]⟩
      | none => .fail
    | _,_ => .fail
  | .array _ _ => match x, y with
    | .agg e, .agg c => match ff E 10 t e c with
      | some b => .ret ⟨.bool (eV neq b),[]⟩
      | none => .fail
    | _,_ => .fail
  | _ => .fail
def mz (E:Env)(d:BinOp)(t:TypeId)(c:Bool)(x y:AV):Rd:=
 match x,y with
 | .int k a, .int e b =>
   match d with
   | .shl => .bZ (decide (0≤b)) (.ret ⟨.int k (wr k (a * 2 ^ min b.toNat k.bits)),[]⟩)
   | .shr => .bZ (decide (0≤b)) (.ret ⟨.int k (a.fdiv (2 ^ min b.toNat k.bits)),[]⟩)
   | _ => match decide (k = e) with
     | false => .fail
     | true => match d with
       | .add => .ret ⟨.int k (wr k (a+b)),[]⟩
       | .sub => .ret ⟨.int k (wr k (a - b)),[]⟩
       | .mul => .ret ⟨.int k (wr k (a * b)),[]⟩
       | .quo => .bZ (!decide (b=0)) (.ret ⟨.int k (wr k (a.tdiv b)),[]⟩)
       | .rem => .bZ (!decide (b=0)) (.ret ⟨.int k (a.tmod b),[]⟩)
       | .eql => .ret ⟨.bool (aZ a b),[]⟩
       | .neq => .ret ⟨.bool (!aZ a b),[]⟩
       | .lss => .ret ⟨.bool (bN a b),[]⟩
       | .leq => .ret ⟨.bool (bM a b),[]⟩
       | .gtr => .ret ⟨.bool (bN b a),[]⟩
       | .geq => .ret ⟨.bool (bM b a),[]⟩
       | .and => .ret ⟨.int k (dS .and k a b),[]⟩
       | .or => .ret ⟨.int k (dS .or k a b),[]⟩
       | .xor => .ret ⟨.int k (dS .xor k a b),[]⟩
       | .andNot => .ret ⟨.int k (dS .andNot k a b),[]⟩
       | _ => .fail
 | .str a, .str b =>
   match d with
   | .add => .bZ (ble (a.length+b.length) 9223372036854775807) (.ret ⟨.str (a++b),[]⟩)
   | .eql => .ret ⟨.bool (bK a b),[]⟩
   | .neq => .ret ⟨.bool (!bK a b),[]⟩
   | .lss => .ret ⟨.bool (Op.bytesLess a b),[]⟩
   | .leq => .ret ⟨.bool (Op.bytesLess a b || a == b),[]⟩
   | .gtr => .ret ⟨.bool (!(Op.bytesLess a b || a == b)),[]⟩
   | .geq => .ret ⟨.bool (!Op.bytesLess a b),[]⟩
   | _ => .fail
 | _, _ => match d with
   | .eql=>vb E false t c x y
   | .neq=>vb E true t c x y
   | _ => .fail
def KL:UnOp->AV->Rd
 | .neg,.int k n => .ret ⟨.int k (wr k (0 - n)),[]⟩
 | .not,.bool b => .ret ⟨.bool (!b),[]⟩
 | .xor,.int k n => .ret ⟨.int k (dS .xor k (if k.signed then -1 else k.max) n),[]⟩
 | _,_ => .fail
def pN:List (List AV)->Option (List UInt8)
 | []=>some []
 | [.int .u8 n] :: l => match pN l with
   | some r=>some (UInt8.ofNat n.toNat::r)
   | none=>none
 | _=>none
def kC (es:List (List AV)):Option (List AV):=
 match pN es with
 | some l=>some [.str l]
 | none=>none
def lF (cs:List AV):Rd:=
 match cs with
 | [v] => .ret ⟨v,[]⟩
 | _ => .fail
def qL (E:Env)(ts:TI)(x:AV):Rd:=
 match ts.desc with
 | .slice e => cf E e fun f => match f.desc with
   | .int .u8 => match x with
     | .ah => .ret ⟨.str [],[]⟩
     | .ak d b => .bZ (d == 1) (.opt (kC b) lF)
     | .az k i a d => .rd k <| ke fun c b => .bZ (d == 1 && c == 1 && ble (i+a) b.length) (.opt (kC ((b.drop i).take a)) lF)
     | _ => .fail
   | _ => .fail
 | _ => .fail
def sR (E:Env)(d c:TypeId)(x:AV):Rd:=
 cf E d fun h=>cf E c fun p=>match p.desc,x with
  | .int k,.int _ n => .ret ⟨.int k (wr k n),[]⟩
  | .string,.str l => .ret ⟨.str l,[]⟩
  | .string,.int _ n => .ret ⟨.str (Utf8.encode n).data.toList,[]⟩
  | .string,.ah=>qL E h x
  | .string,.ak _ _=>qL E h x
  | .string,.az _ _ _ _=>qL E h x
  | .slice e, .str l => cf E e fun g => match g.desc with
    | .int .u8 => .ret ⟨.ak 1 (l.map fun b=>[.int .u8 b.toNat]),[]⟩
    | _ => .fail
  | .slice e, .az k i a o => cf E e fun g => match g.desc with
    | .int .u8 => .bZ (d == c && blt 0 a && ble (k + 2) 16777216) (.rd k <| ke fun j f => .bZ (o == 1 && j == 1 && ble (i+a) f.length)
     (.opt (kC ((f.drop i).take a)) fun _ => .ret ⟨.ak 1 ((f.drop i).take a),[(k,none)]⟩))
    | _ => .fail
  | _,_ => .fail
def KE (E:Env)(t:TypeId)(x:AV):Rd:=
 cf E t fun a=>match a.desc with
  | .iface => .fail
  | _ => .ret ⟨.cG t x,[]⟩
def Kx (E:Env)(x:AV)(t:TypeId)(b:Bool):Rd:=
 cf E t fun a=>match a.desc,x with
  | .iface,_ => .fail
  | _, .cG c v => match c == t, b with
    | true,true => .ret ⟨.ao [v,.bool true],[]⟩
    | true,false => .ret ⟨v,[]⟩
    | false,true => .ret ⟨.ao [match a.agg with|true => .agg a.zero|false=>a.zero.headD .any,.bool false],[]⟩
    | false,false => .fail
  | _, .eH => match b with
    | true => .ret ⟨.ao [match a.agg with|true => .agg a.zero|false=>a.zero.headD .any,.bool false],[]⟩
    | false => .fail
  | _,_ => .fail
def yD (x:AV)(i:Nat):Rd:=
 match x with
 | .ao a => match a[i]? with
   | some v => .ret ⟨v,[]⟩
   | none => .fail
 | _ => .fail
def yH (E:Env)(nm:Nat)(t:TypeId)(len cap:AV):Rd:=
 cf E t fun b=>match b.desc,len,cap with
  | .slice e, .int .i64 l, .int .i64 c => cf E e fun a =>
    .bZ (decide (0≤l) && decide (l≤c) && decide (c≤9223372036854775807) && decide (a.bytes * c≤140737488355328) && blt 0 a.size)
     (iJ (.az nm 0 l.toNat a.size) nm (.arr a.size (replicate c.toNat a.zero)))
  | _,_,_ => .fail
def X3:AV->Rd
 | .ptr k i a => .ret ⟨.ptr k i a,[]⟩
 | .bq c => .ret ⟨.bq c,[]⟩
 | .fn (.func f) d b => .ret ⟨.fn (.func f) d b,[]⟩
 | .cG t v => .ret ⟨.cG t v,[]⟩
 | _ => .fail
def KI (c a b:AV):Rd:=
 match c with
 | .bool t => .br t (.ret ⟨a,[]⟩) (.ret ⟨b,[]⟩)
 | _ => .fail
def qn:AV->Option Nat
 | .ah | .cW=>some 0
 | .az _ _ a _=>some a
 | .ak _ b=>some b.length
 | _=>none
def KF (E:Env)(t:TypeId)(x:AV):Rd:=
 cf E t fun a=>match a.desc,x with
  | .string,.str l => .ret ⟨.int .i64 l.length,[]⟩
  | .array n _,_ => .ret ⟨.int .i64 n,[]⟩
  | .slice _, x => match qn x with
    | some n => .ret ⟨.int .i64 n,[]⟩
    | none => .fail
  | _,_ => .fail
def rJ (size:Nat)(x:AV)(f:List (List AV)->Rd):Rd:=
 match x with
 | .ah | .cW=>f []
 | .ak e c => .bZ (e == size) (f c)
 | .az k i a e => .rd k <| ke fun d c => .bZ (e == size && d == size && ble (i+a) c.length) (f ((c.drop i).take a))
 | .str l => .bZ (size == 1) (f (l.map fun b=>[.int .u8 b.toNat]))
 | _ => .fail
def yA (E:Env)(nm:Nat)(e:TypeId)(s x:AV):Rd:=
 cf E e fun b => .bZ (blt 0 b.size) (rJ b.size x fun a=>
  .br (beq a.length 0) (match qn s with|some _ => .ret ⟨s,[]⟩|none => .fail)
   (.bZ (a.all fun e => e.all AV.one) (match s with
     | .ah | .cW => .bZ (ble (a.length * (b.bytes+1)) 140737488355328) (iJ (.az nm 0 a.length b.size) nm (.arr b.size a))
     | .az k i c g => .rd k <| ke fun d f => .bZ (g == b.size && d == b.size && ble (i+c) f.length && ble ((c+a.length) * (b.bytes+1)) 140737488355328 && ble (k+2) 16777216 && ble (nm+2) 16777216) (.ret ⟨.az nm 0 (c+a.length) b.size,[(k,none),(nm,some (.arr b.size ((f.drop i).take c++a)))]⟩)
     | _ => .fail)))
def yz (E:Env)(nm:Nat)(e:TypeId)(s x:AV):Rd:=
 cf E e fun a=>match s,x with
  | .ah, .int .i64 n => .bZ (blt 0 a.size && a.zero.all AV.one) (.bZ (blt 0 n.toNat && ble (n.toNat * (a.bytes+1)) 140737488355328)
   (iJ (.az nm 0 n.toNat a.size) nm (.arr a.size (replicate n.toNat a.zero))))
  | _,_ => .fail
def qK (E:Env)(nm:Nat)(t b:TypeId)(s x:AV):Rd:=
 cf E t fun c=>cf E b fun a=>match c.desc,a.desc with
  | .slice e,.slice _ | .slice e,.string=>yA E nm e s x
  | .slice e,.int _=>yz E nm e s x
  | _,_ => .fail
def KB (E:Env)(t:TypeId)(x:AV):Rd:=
 cf E t fun a=>match a.desc,x with
  | .slice _,.ah => .ret ⟨.int .i64 0,[]⟩
  | _,_ => .fail
def yC (E:Env)(t:TypeId)(x:AV):Rd:=
 cf E t fun f=>match f.desc,x with
  | .slice e,.az k i a g=>cf E e fun b => .rd k <| ke fun d c => .bZ (blt 0 b.size && b.zero.all AV.one && g == b.size && d == b.size)
   (.bZ (ble (i+a) c.length) (iJ (.ao []) k (.arr b.size (c.take i++replicate a b.zero++c.drop (i+a)))))
  | _,_ => .fail
def bL (mx:Bool)(a b:Int):Int:=match mx with|true=>if b > a then b else a|false=>if b<a then b else a
def qp (mx:Bool):AV->List AV->Option AV
 | x,[]=>some x
 | .int k a,.int _ b::l=>qp mx (.int k (bL mx a b)) l
 | _,_=>none
def yI (mx:Bool):List AV->Rd
 | .int k a :: l => match qp mx (.int k a) l with
   | some v => .ret ⟨v,[]⟩
   | none => .fail
 | _ => .fail
def AU (s:List UInt8)(a:Nat):Nat×Nat:=Utf8.decode ⟨s.toArray⟩ a
def jI (s:List UInt8)(a:Nat):Int:=(AU s a).1
def hU (s:List UInt8)(a:Nat):Nat:=(AU s a).2
def gk:List (Int×AV)->Int->Option AV
 | [],_=>none
 | (a, x) :: l, k => match decide (a = k) with
   | true=>some x
   | false=>gk l k
def eo:List (Int×AV)->Int->AV->List (Int×AV)
 | [],k,v=>[(k,v)]
 | (a, x) :: l, k, v => match decide (a < k) with
   | true=>(a,x)::eo l k v
   | false => match decide (a = k) with
     | true=>(k,v)::l
     | false=>(k,v)::(a,x)::l
def vv (a:TI):AV:=match a.agg with|true => .agg a.zero|false=>a.zero.headD .any
def nv (z:AV)(a:Bool):Option AV->AV
 | some v=>match a with|true => .ao [v,.bool true]|false=>v
 | none=>match a with|true => .ao [z,.bool false]|false=>z
def I6 (f:List (Int×AV)->Rd):an->Rd
 | .mp a=>f a
 | _ => .fail
def D7 (E:Env)(t:TypeId)(a:AV)(f:TI->Int->Rd):Rd:=
 cf E t fun c=>match c.desc,a with
  | .map d e, .int .i64 k => cf E d fun g => match g.desc with
    | .int .i64=>cf E e fun b=>f b k
    | _ => .fail
  | _,_ => .fail
def KG (E:Env)(t:TypeId)(x b:AV)(c:Bool):Rd:=
 D7 E t b fun a k=>match x with
  | .fO => .ret ⟨nv (vv a) c none,[]⟩
  | .cK d => .ret ⟨nv (vv a) c (gk d k),[]⟩
  | .cY e => .rd e <| I6 fun d => .ret ⟨nv (vv a) c (gk d k),[]⟩
  | _ => .fail
def KH (E:Env)(t:TypeId)(m a v:AV):Rd:=
 D7 E t a fun _ k=>match m with
  | .cY b => .rd b <| I6 fun c=>iJ .any b (.mp (eo c k v))
  | _ => .fail
def KJ (E:Env)(nm:Nat)(t:TypeId)(x:AV):Rd:=
 cf E t fun b=>match b.desc,x with
  | .string,.str s=>iJ (.ptr nm 0 0) nm (.dG s 0)
  | .map _ _,.cK a=>iJ (.ptr nm 0 0) nm (.cm none a)
  | _,_ => .fail
def We (f:Int×AV->Rd):an->Rd
 | .cm (some p) _=>f p
 | _ => .fail
def Df (x:AV):Rd:=
 match x with
 | .ptr k 0 0 => .rd k <| We fun p => .ret ⟨.ao [.int .i64 p.1,p.2],[]⟩
 | _ => .fail
def I7 (f:List UInt8->Nat->Rd):an->Rd
 | .dG s a=>f s a
 | _ => .fail
def vc (x:AV)(b:Bool):Rd:=
 match x,b with
 | .ptr k 0 0,true => .rd k <| I7 fun s a => .br (blt a s.length) (iJ (.ao [.bool true,.int .i64 a,.int .i32 (jI s a)]) k (.dG s (a+hU s a))) (.ret ⟨.ao [.bool false],[]⟩)
 | _,_ => .fail
def iE:Operand->Bool
 | .const _=>true
 | _=>false
def yB (E:Env)(nm:Nat)(b:Builtin)(ts:Array TypeId)(args:List AV):Rd:=
 match b,ts.toList,args with
 | .len,[t],[x]=>KF E t x
 | .append,[t,a],[s,x]=>qK E nm t a s x
 | .cap,[t],[x]=>KB E t x
 | .clear,[t],[x]=>yC E t x
 | .min,_,l=>yI false l
 | .max,_,l=>yI true l
 | _,_,_ => .fail
def cc (E:Env)(nm:Nat)(ρ:Operand->AV):Op->Rd
 | .move x | .assign x => .ret ⟨ρ x,[]⟩
 | .pick c a b=>KI (ρ c) (ρ a) (ρ b)
 | .alloc t=>Kw E nm t
 | .box t x=>Ky E nm t (ρ x)
 | .build t o=>Kz E t (o.toList.map fun (i,x)=>(i,ρ x))
 | .buildSlice t n o=>KA E nm t n (o.toList.map fun (i,x)=>(i,ρ x))
 | .load t a=>yG E t (ρ a)
 | .store t a x=>KK E t (ρ a) (ρ x)
 | .nilCheck x=>X3 (ρ x)
 | .binOp h t x y _=>mz E h t (iE x || iE y) (ρ x) (ρ y)
 | .unOp h _ x=>KL h (ρ x)
 | .convert s d x=>sR E s d (ρ x)
 | .makeInterface t x=>KE E t (ρ x)
 | .makeFunc f u w => .ret ⟨.fn f (u.toList.map ρ) (w.toList.map ρ),[]⟩
 | .makeSlice t l c=>yH E nm t (ρ l) (ρ c)
 | .slice t x z q r=>nP E t (ρ x) (z.map ρ) (q.map ρ) (r.map ρ)
 | .fieldAddr t x f=>KD E t (ρ x) f
 | .field t x f=>KC E t (ρ x) f
 | .indexAddr t x i=>yF E t (ρ x) (ρ i)
 | .index t x i=>yE E t (ρ x) (ρ i)
 | .typeAssert x _ t g=>Kx E (ρ x) t g
 | .extract x i=>yD (ρ x) i
 | .range t x=>KJ E nm t (ρ x)
 | .makeMap _ none=>iJ (.cY nm) nm (.mp [])
 | .lookup t x i g=>KG E t (ρ x) (ρ i) g
 | .mapUpdate t m k v=>KH E t (ρ m) (ρ k) (ρ v)
 | .next x j=>vc (ρ x) j
 | .entry x=>Df (ρ x)
 | .panic x => match ρ x with
   | .cG t v => .aR (.cG t v)
   | _ => .fail
 | .call { callee := .builtin b,args,argTypes }=>yB E nm b argTypes (args.toList.map ρ)
 | _ => .fail
end Go.Ago
