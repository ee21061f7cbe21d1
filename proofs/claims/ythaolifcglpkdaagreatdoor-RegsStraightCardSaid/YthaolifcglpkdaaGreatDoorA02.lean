/-
  Part 2: lemmas, each with its own conditions.
-/
import Derived.Laws.NewFold
import Derived.Test.YthaolifcglpkdaaGreatDoorA01
set_option maxRecDepth 100000
set_option maxHeartbeats 0
set_option linter.all false
namespace Go.Ago
inductive TD where
 | struct (fs:List (Nat×Nat×TypeId))
 | slice (e:TypeId)
 | array (n:Nat) (e:TypeId)
 | int (k:IntKind)
 | bool
 | string
 | iface
 | ptr
 | func
 | map (k e:TypeId)
 | other
 deriving Inhabited
structure TI where
 size:Nat
 bytes:Nat
 agg:Bool
 zero:List AV
 desc:TD
 eqok:Bool
 deriving Inhabited
structure Env where
 ti:TypeId→Option TI
 glob:zd9
structure Eff where
 val:AV
 up:List (Nat×Option AObj)
def Eff.upd (H:zah):List (Nat×Option AObj)→zah
 | []=>H
 | (k,o)::l=>Eff.upd (H.set 24 k o) l
inductive Rd where
 | ret (e:Eff)
 | pan (v:AV)
 | rd (k:Nat) (f:AObj→Rd)
 | req (b:Bool) (r:Rd)
 | br (b:Bool) (r s:Rd)
 | opt (o:Option (List AV)) (f:List AV→Rd)
 | fail
def Rd.run (H:zah):Rd→Option (Eff ⊕ AV)
 | .ret e=>some (.inl e)
 | .pan v=>some (.inr v)
 | .rd k f => match H.get k with
   | some o=>(f o).run H
   | none=>none
 | .req b r => match b with
   | true=>r.run H
   | false=>none
 | .br b r s => match b with
   | true=>r.run H
   | false=>s.run H
 | .opt o f => match o with
   | some e=>(f e).run H
   | none=>none
 | .fail=>none
def Rd.holds (H:zah)(K:Eff→Prop)(Kp:AV→Prop):Rd→Prop
 | .ret e=>K e
 | .pan v=>Kp v
 | .rd k f => match H.get k with
   | some o=>(f o).holds H K Kp
   | none=>False
 | .req b r=>b=true∧r.holds H K Kp
 | .br b r s=>(b=true→r.holds H K Kp)∧(b=false→s.holds H K Kp)
 | .opt o f=>∃e,o=some e∧(f e).holds H K Kp
 | .fail=>False
theorem Rd.holds_run {H:zah}{K:Eff→Prop}{Kp:AV→Prop}:∀{r:Rd},r.holds H K Kp→(∃e,r.run H=some (.inl e)∧K e)∨(∃v,r.run H=some (.inr v)∧Kp v)
 | .ret e,h => .inl ⟨e,rfl,h⟩
 | .pan v,h => .inr ⟨v,rfl,h⟩
 | .rd k f, h => by
   simp only[holds] at h;simp only[run];cases e:H.get k with
   | none=>rw[e] at h;exact h.elim
   | some o=>rw[e] at h;exact holds_run h
 | .req b r, h => by
   obtain⟨rfl,h⟩:=h;exact holds_run (r:=r) h
 | .br b r s, h => by
   cases b with
   | true=>exact holds_run (r:=r) (h.1 rfl)
   | false=>exact holds_run (r:=s) (h.2 rfl)
 | .opt o f, h => by
   obtain⟨e,rfl,h⟩:=h;exact holds_run (r:=f e) h
 | .fail,h=>h.elim
structure St where
 slots:Tr AV
 nsl:Nat
 heap:zah
 next:Nat
def zrp:Value→AV
 | .bool b => .bool b
 | .int k n => .int k n
 | .string s => .str s.data.toList
 | .pointer none => .nilp
 | .slice none 0 0 => .nils
 | .map none => .nilm
 | .nilFunc => .nilf
 | .nilIface => .nili
 | _ => .any
def ztp:Value→AV
 | .agg cs => .agg (cs.toList.map zrp)
 | v=>zrp v
def St.ev (E:Env)(S:St):Operand→AV
 | .tmp t => match S.slots.get t with
   | some x=>x
   | none => .any
 | .const v=>ztp v
 | .global g => match E.glob g with
   | some cs => .rptr cs
   | none => .any
 | .func f => .fn (.func f) [] []
def put1 (v:AV)(k:Nat)(o:AObj):Rd := .req (Nat.ble (k+2) 16777216) (.ret ⟨v,[(k,some o)]⟩)
def zba (E:Env)(t:TypeId)(f:TI→Rd):Rd:=
 match E.ti t with
 | some i=>f i
 | none => .fail
def ldv (i:TI)(cs:List AV)(off:Nat):Rd:=
 .req (Nat.ble (off + i.size) cs.length) (match i.agg with
  | true => .ret ⟨.agg ((cs.drop off).take i.size),[]⟩
  | false => match cs[off]? with
    | some x => .ret ⟨x,[]⟩
    | none => .fail)
def zjv (f:Nat→List (List AV)→Rd):AObj→Rd
 | .arr sz es=>f sz es
 | _ => .fail
def zo2 (E:Env)(t:TypeId):AV→Rd
 | .ptr k i off=>zba E t fun ti => .rd k <| zjv fun _ es => .opt es[i]? fun e=>ldv ti e off
 | .rptr cs=>zba E t fun ti=>ldv ti cs 0
 | _ => .fail
def zuj (E:Env)(t:TypeId)(a v:AV):Rd:=
 match a with
 | .ptr k i off=>zba E t fun ti => .req (v.cells.length == ti.size && v.cells.all AV.one) (.rd k <| zjv fun sz es => .opt es[i]? fun e => .req (Nat.ble (off+ti.size) e.length) (.opt (some (zgl e off v.cells)) fun row=>put1 .any k (.arr sz (es.set i row))))
 | _ => .fail
def yf8 (E:Env)(nm:Nat)(t:TypeId)(v:AV):Rd:=
 zba E t fun ti => .req (v.cells.length == ti.size && v.cells.all AV.one) (.opt (some v.cells) fun row=>put1 (.ptr nm 0 0) nm (.arr ti.size [row]))
def zup (E:Env)(nm:Nat)(t:TypeId):Rd:=
 zba E t fun ti=>put1 (.ptr nm 0 0) nm (.arr ti.size [ti.zero])
def zno (place:Nat→Option (Nat×Nat))(cells:List AV):List (Nat×AV)→Option (List AV)
 | []=>some cells
 | (i, v) :: rest =>
   match place i with
   | none=>none
   | some (off, size) => match (v.cells.length == size && v.cells.all AV.one) && Nat.ble (off + size) cells.length with
     | true=>zno place (zgl cells off v.cells) rest
     | false=>none
def zif (fs:List (Nat×Nat×TypeId))(i:Nat):Option (Nat×Nat):=
 match fs[i]? with
 | some (off,sz,_)=>some (off,sz)
 | none=>none
def zuo (E:Env)(t:TypeId)(parts:List (Nat×AV)):Rd:=
 zba E t fun ti=>match ti.desc with
  | .struct fs => match zno (zif fs) ti.zero parts with
    | some cs => .ret ⟨.agg cs,[]⟩
    | none => .fail
  | .array _ e => zba E e fun te => match zno (fun i => some (i * te.size, te.size)) ti.zero parts with
    | some cs => .ret ⟨.agg cs,[]⟩
    | none => .fail
  | _ => .fail
def zti (size:Nat)(es:List (List AV)):List (Nat×AV)→Option (List (List AV))
 | []=>some es
 | (i, v) :: rest => match (v.cells.length == size && v.cells.all AV.one) && Nat.blt i es.length with
   | true=>zti size (es.set i v.cells) rest
   | false=>none
def zir (E:Env)(nm:Nat)(t:TypeId)(len:Nat)(parts:List (Nat×AV)):Rd:=
 zba E t fun ti=>match ti.desc with
  | .slice e => zba E e fun te => .req (Nat.ble (len * te.size) 16777216 && Nat.blt 0 te.size) (match zti te.size (List.replicate len te.zero) parts with
    | some es=>put1 (.slc nm 0 len te.size) nm (.arr te.size es)
    | none => .fail)
  | _ => .fail
def zun (E:Env)(t:TypeId)(x:AV)(f:Nat):Rd:=
 zba E t fun ti=>match ti.desc,x with
  | .struct fs, .agg cs => match fs[f]? with
    | some (off,_,ft)=>zba E ft fun tf=>ldv tf cs off
    | none => .fail
  | _,_ => .fail
def zj9 (E:Env)(t:TypeId)(x:AV)(f:Nat):Rd:=
 zba E t fun ti=>match ti.desc with
  | .struct fs => match fs[f]? with
    | some (off, sz, _) => .req (Nat.blt 0 sz) (match x with
      | .ptr k i o => .ret ⟨.ptr k i (o+off),[]⟩
      | .rptr cs => .ret ⟨.rptr (cs.drop off),[]⟩
      | _ => .fail)
    | none => .fail
  | _ => .fail
def inB (n:Int)(len:Nat):Bool:=decide (0≤n) && decide (n<len)
def zje (cs:List AV)(off n:Nat):Option (List AV):=
 match Nat.ble (off+n) cs.length with
 | true=>some ((cs.drop off).take n)
 | false=>none
def zey (E:Env)(t:TypeId)(x ix:AV):Rd:=
 zba E t fun ti=>match ti.desc,ix with
  | .slice e, .int _ n => zba E e fun te => match x with
    | .slc k i len sz => .req (sz == te.size && inB n len) (.ret ⟨.ptr k (i+n.toNat) 0,[]⟩)
    | .rsl sz es => .req (sz == te.size && inB n es.length) (.opt es[n.toNat]? fun cs => .ret ⟨.rptr cs,[]⟩)
    | _ => .fail
  | .array len e, .int _ n => zba E e fun te => match x with
    | .ptr k i off => .req (inB n len) (.ret ⟨.ptr k i (off+n.toNat * te.size),[]⟩)
    | .rptr cs => .req (inB n len) (.opt (zje cs (n.toNat * te.size) te.size) fun e => .ret ⟨.rptr e,[]⟩)
    | _ => .fail
  | _,_ => .fail
def zk2 (E:Env)(t:TypeId)(x ix:AV):Rd:=
 zba E t fun ti=>match ti.desc,ix,x with
  | .array len e,.int _ n,.agg cs=>zba E e fun te => .req (inB n len) (.opt (zje cs (n.toNat * te.size) te.size) fun e=>ldv te e 0)
  | .string,.int _ n,.str l => .req (inB n l.length) (.ret ⟨.int .u8 (l.getD n.toNat 0).toNat,[]⟩)
  | _,_,_ => .fail
def zbr (d:Int):Option AV→Option Int
 | none=>some d
 | some (.int _ n)=>some n
 | some _=>none
def zdg (a b n:Int):Bool:=decide (0≤a) && decide (a≤b) && decide (b≤n)
def zei (E:Env)(t:TypeId)(x:AV)(lo hi mx:Option AV):Rd:=
 zba E t fun ti=>match ti.desc,x with
  | .string, .str l => match mx, zbr 0 lo, zbr l.length hi with
    | none,some a,some b => .req (zdg a b l.length) (.ret ⟨.str ((l.drop a.toNat).take (b.toNat - a.toNat)),[]⟩)
    | _,_,_ => .fail
  | .slice e, .nils => zba E e fun _ => match mx, zbr 0 lo, zbr 0 hi with
    | none,some a,some b => .req (zdg a b 0) (.ret ⟨.nils,[]⟩)
    | _,_,_ => .fail
  | .slice e, .empt => zba E e fun _ => match mx, zbr 0 lo, zbr 0 hi with
    | none,some a,some b => .req (zdg a b 0) (.ret ⟨.empt,[]⟩)
    | _,_,_ => .fail
  | .slice e, .slc k i len sz => zba E e fun te => .req (sz == te.size) (match zbr 0 lo, zbr len hi with
    | some a, some b => match mx, hi with
      | none,_ => .req (zdg a b len) (.ret ⟨.slc k (i+a.toNat) (b.toNat - a.toNat) sz,[]⟩)
      | some (.int _ m),some _ => .req (zdg a b m && decide (m≤len)) (.br (decide (a=m)) (.ret ⟨.empt,[]⟩) (.ret ⟨.slc k (i+a.toNat) (b.toNat - a.toNat) sz,[]⟩))
      | _,_ => .fail
    | _,_ => .fail)
  | .slice e, .rsl sz es => zba E e fun te => .req (sz == te.size) (match zbr 0 lo, zbr es.length hi with
    | some a, some b => match mx, hi with
      | none,_ => .req (zdg a b es.length) (.ret ⟨.rsl sz ((es.drop a.toNat).take (b.toNat - a.toNat)),[]⟩)
      | some (.int _ m),some _ => .req (zdg a b m && decide (m≤es.length)) (.br (decide (a=m)) (.ret ⟨.empt,[]⟩) (.ret ⟨.rsl sz ((es.drop a.toNat).take (b.toNat - a.toNat)),[]⟩))
      | _,_ => .fail
    | _,_ => .fail)
  | _,_ => .fail
def zcs (op:BinOp)(k:IntKind)(x y:Int):Int:=
 let a:=BitVec.ofInt k.bits x
 let b:=BitVec.ofInt k.bits y
 match op with
 | .and=>k.wrap (a &&& b).toNat
 | .or=>k.wrap (a ||| b).toNat
 | .xor=>k.wrap (a ^^^ b).toNat
 | _=>k.wrap (a &&& ~~~b).toNat
def ltI (a b:Int):Bool:=decide (a<b)
def leI (a b:Int):Bool:=decide (a≤b)
def eqI (a b:Int):Bool:=a == b
def eqS (a b:List UInt8):Bool:=a == b
def shrI (a b:Int)(k:IntKind):Int:=a.fdiv (2 ^ min b.toNat k.bits)
def wr (k:IntKind)(n:Int):Int:=k.wrap n
def eqA (E:Env):Nat→TypeId→List AV→List AV→Option Bool
 | 0,_,_,_=>none
 | d + 1, t, xs, ys =>
   match E.ti t with
   | none=>none
   | some ti => match ti.eqok with
     | false=>none
     | true => match ti.desc with
       | .int _ => match xs, ys with
         | [.int k a], [.int k' b] => match decide (k = k') with
           | true=>some (a == b)
           | false=>none
         | _,_=>none
       | .bool => match xs, ys with
         | [.bool a],[.bool b]=>some (a == b)
         | _,_=>none
       | .string => match xs, ys with
         | [.str a],[.str b]=>some (a == b)
         | _,_=>none
       | .struct fs=>eqF (eqA E d) fs xs ys
       | .array n e => match E.ti e with
         | some te=>eqF (eqA E d) ((List.range n).map fun i=>(i * te.size,te.size,e)) xs ys
         | none=>none
       | _=>none
where
 eqF (f:TypeId→List AV→List AV→Option Bool):List (Nat×Nat×TypeId)→List AV→List AV→Option Bool
  | [],_,_=>some true
  | (off, sz, t) :: fs, xs, ys =>
    match Nat.ble (off+sz) xs.length && Nat.ble (off+sz) ys.length with
    | false=>none
    | true => match f t ((xs.drop off).take sz) ((ys.drop off).take sz), eqF f fs xs ys with
      | some a,some b=>some (a && b)
      | _,_=>none
def zkj (b:Bool)(x:Bool):Bool:=match b with
 | true=>!x
 | false=>x
def zmd:AV→Option Bool
 | .nils=>some true
 | .slc _ _ _ _=>some false
 | .rsl _ (_::_)=>some false
 | _=>none
def zqd (E:Env)(neq:Bool)(t:TypeId)(lit:Bool)(x y:AV):Rd:=
 zba E t fun ti=>match ti.desc with
  | .bool => match x, y with
    | .bool a,.bool b => .ret ⟨.bool (zkj neq (a == b)),[]⟩
    | _,_ => .fail
  | .ptr => match x, y with
    | .nilp,.nilp => .ret ⟨.bool (zkj neq true),[]⟩
    | .nilp,.ptr _ _ _ | .nilp,.rptr _ | .ptr _ _ _,.nilp | .rptr _,.nilp => .ret ⟨.bool (zkj neq false),[]⟩
    | _,_ => .fail
  | .slice _ => match zmd x, zmd y with
    | some true,some b => .ret ⟨.bool (zkj neq b),[]⟩
    | some b,some true => .ret ⟨.bool (zkj neq b),[]⟩
    | _,_ => .fail
  | .func => match x, y with
    | .nilf,.nilf => .ret ⟨.bool (zkj neq true),[]⟩
    | .nilf,.fn _ _ _ | .fn _ _ _,.nilf => .ret ⟨.bool (zkj neq false),[]⟩
    | _,_ => .fail
  | .iface => match x, y with
    | .nili, .nili => match lit with
      | true => .ret ⟨.bool (zkj neq true),[]⟩
      | false => .fail
    | .nili,.ifc _ _ | .ifc _ _,.nili => .ret ⟨.bool (zkj neq false),[]⟩
    | _,_ => .fail
  | .struct _ => match x, y with
    | .agg xs, .agg ys => match eqA E 10 t xs ys with
      | some b => .ret ⟨.bool (zkj neq b),[]⟩
      | none => .fail
    | _,_ => .fail
  | .array _ _ => match x, y with
    | .agg xs, .agg ys => match eqA E 10 t xs ys with
      | some b => .ret ⟨.bool (zkj neq b),[]⟩
      | none => .fail
    | _,_ => .fail
  | _ => .fail
def zhz (E:Env)(op:BinOp)(t:TypeId)(lit:Bool)(x y:AV):Rd:=
 match x,y with
 | .int k a, .int k' b =>
   match op with
   | .shl => .req (decide (0≤b)) (.ret ⟨.int k (wr k (a * 2 ^ min b.toNat k.bits)),[]⟩)
   | .shr => .req (decide (0≤b)) (.ret ⟨.int k (a.fdiv (2 ^ min b.toNat k.bits)),[]⟩)
   | _ => match decide (k = k') with
     | false => .fail
     | true => match op with
       | .add => .ret ⟨.int k (wr k (a+b)),[]⟩
       | .sub => .ret ⟨.int k (wr k (a - b)),[]⟩
       | .mul => .ret ⟨.int k (wr k (a * b)),[]⟩
       | .quo => .req (!decide (b=0)) (.ret ⟨.int k (wr k (a.tdiv b)),[]⟩)
       | .rem => .req (!decide (b=0)) (.ret ⟨.int k (a.tmod b),[]⟩)
       | .eql => .ret ⟨.bool (eqI a b),[]⟩
       | .neq => .ret ⟨.bool (!eqI a b),[]⟩
       | .lss => .ret ⟨.bool (ltI a b),[]⟩
       | .leq => .ret ⟨.bool (leI a b),[]⟩
       | .gtr => .ret ⟨.bool (ltI b a),[]⟩
       | .geq => .ret ⟨.bool (leI b a),[]⟩
       | .and => .ret ⟨.int k (zcs .and k a b),[]⟩
       | .or => .ret ⟨.int k (zcs .or k a b),[]⟩
       | .xor => .ret ⟨.int k (zcs .xor k a b),[]⟩
       | .andNot => .ret ⟨.int k (zcs .andNot k a b),[]⟩
       | _ => .fail
 | .str a, .str b =>
   match op with
   | .add => .req (Nat.ble (a.length+b.length) 9223372036854775807) (.ret ⟨.str (a++b),[]⟩)
   | .eql => .ret ⟨.bool (eqS a b),[]⟩
   | .neq => .ret ⟨.bool (!eqS a b),[]⟩
   | .lss => .ret ⟨.bool (Op.bytesLess a b),[]⟩
   | .leq => .ret ⟨.bool (Op.bytesLess a b || a == b),[]⟩
   | .gtr => .ret ⟨.bool (!(Op.bytesLess a b || a == b)),[]⟩
   | .geq => .ret ⟨.bool (!Op.bytesLess a b),[]⟩
   | _ => .fail
 | _, _ => match op with
   | .eql=>zqd E false t lit x y
   | .neq=>zqd E true t lit x y
   | _ => .fail
def ym7:UnOp→AV→Rd
 | .neg,.int k n => .ret ⟨.int k (wr k (0 - n)),[]⟩
 | .not,.bool b => .ret ⟨.bool (!b),[]⟩
 | .xor,.int k n => .ret ⟨.int k (zcs .xor k (if k.signed then -1 else k.max) n),[]⟩
 | _,_ => .fail
def zm1:List (List AV)→Option (List UInt8)
 | []=>some []
 | [.int .u8 n] :: l => match zm1 l with
   | some r=>some (UInt8.ofNat n.toNat::r)
   | none=>none
 | _=>none
def zgd (es:List (List AV)):Option (List AV):=
 match zm1 es with
 | some l=>some [.str l]
 | none=>none
def hd1 (cs:List AV):Rd:=
 match cs with
 | [v] => .ret ⟨v,[]⟩
 | _ => .fail
def zlx (E:Env)(ts:TI)(x:AV):Rd:=
 match ts.desc with
 | .slice e => zba E e fun te => match te.desc with
   | .int .u8 => match x with
     | .nils => .ret ⟨.str [],[]⟩
     | .rsl sz es => .req (sz == 1) (.opt (zgd es) hd1)
     | .slc k i len sz => .rd k <| zjv fun sz' es => .req (sz == 1 && sz' == 1 && Nat.ble (i+len) es.length) (.opt (zgd ((es.drop i).take len)) hd1)
     | _ => .fail
   | _ => .fail
 | _ => .fail
def zej (E:Env)(src dst:TypeId)(x:AV):Rd:=
 zba E src fun ts=>zba E dst fun td=>match td.desc,x with
  | .int k,.int _ n => .ret ⟨.int k (wr k n),[]⟩
  | .string,.str l => .ret ⟨.str l,[]⟩
  | .string,.int _ n => .ret ⟨.str (Utf8.encode n).data.toList,[]⟩
  | .string,.nils=>zlx E ts x
  | .string,.rsl _ _=>zlx E ts x
  | .string,.slc _ _ _ _=>zlx E ts x
  | .slice e, .str l => zba E e fun te => match te.desc with
    | .int .u8 => .ret ⟨.rsl 1 (l.map fun b=>[.int .u8 b.toNat]),[]⟩
    | _ => .fail
  | .slice e, .slc k i len sz => zba E e fun te => match te.desc with
    | .int .u8 => .req (src == dst && Nat.blt 0 len && Nat.ble (k + 2) 16777216) (.rd k <| zjv fun sz' es => .req (sz == 1 && sz' == 1 && Nat.ble (i+len) es.length)
     (.opt (zgd ((es.drop i).take len)) fun _ => .ret ⟨.rsl 1 ((es.drop i).take len),[(k,none)]⟩))
    | _ => .fail
  | _,_ => .fail
def zum (E:Env)(t:TypeId)(x:AV):Rd:=
 zba E t fun ti=>match ti.desc with
  | .iface => .fail
  | _ => .ret ⟨.ifc t x,[]⟩
def zqe (E:Env)(x:AV)(t:TypeId)(ok:Bool):Rd:=
 zba E t fun ti=>match ti.desc,x with
  | .iface,_ => .fail
  | _, .ifc t' v => match t' == t, ok with
    | true,true => .ret ⟨.tup [v,.bool true],[]⟩
    | true,false => .ret ⟨v,[]⟩
    | false,true => .ret ⟨.tup [match ti.agg with|true => .agg ti.zero|false=>ti.zero.headD .any,.bool false],[]⟩
    | false,false => .fail
  | _, .nili => match ok with
    | true => .ret ⟨.tup [match ti.agg with|true => .agg ti.zero|false=>ti.zero.headD .any,.bool false],[]⟩
    | false => .fail
  | _,_ => .fail
def zhb (x:AV)(i:Nat):Rd:=
 match x with
 | .tup vs => match vs[i]? with
   | some v => .ret ⟨v,[]⟩
   | none => .fail
 | _ => .fail
def zex (E:Env)(nm:Nat)(t:TypeId)(len cap:AV):Rd:=
 zba E t fun ti=>match ti.desc,len,cap with
  | .slice e, .int .i64 l, .int .i64 c => zba E e fun te =>
    .req (decide (0≤l) && decide (l≤c) && decide (c≤9223372036854775807) && decide (te.bytes * c≤140737488355328) && Nat.blt 0 te.size)
     (put1 (.slc nm 0 l.toNat te.size) nm (.arr te.size (List.replicate c.toNat te.zero)))
  | _,_,_ => .fail
def zsz:AV→Rd
 | .ptr k i off => .ret ⟨.ptr k i off,[]⟩
 | .rptr cs => .ret ⟨.rptr cs,[]⟩
 | .fn (.func f) xs ys => .ret ⟨.fn (.func f) xs ys,[]⟩
 | .ifc t v => .ret ⟨.ifc t v,[]⟩
 | _ => .fail
def zy5 (c a b:AV):Rd:=
 match c with
 | .bool t => .br t (.ret ⟨a,[]⟩) (.ret ⟨b,[]⟩)
 | _ => .fail
def lenA:AV→Option Nat
 | .nils | .empt=>some 0
 | .slc _ _ len _=>some len
 | .rsl _ es=>some es.length
 | _=>none
def yf6 (E:Env)(t:TypeId)(x:AV):Rd:=
 zba E t fun ti=>match ti.desc,x with
  | .string,.str l => .ret ⟨.int .i64 l.length,[]⟩
  | .array n _,_ => .ret ⟨.int .i64 n,[]⟩
  | .slice _, x => match lenA x with
    | some n => .ret ⟨.int .i64 n,[]⟩
    | none => .fail
  | _,_ => .fail
def zod (size:Nat)(x:AV)(f:List (List AV)→Rd):Rd:=
 match x with
 | .nils | .empt=>f []
 | .rsl sz es => .req (sz == size) (f es)
 | .slc k i len sz => .rd k <| zjv fun sz' es => .req (sz == size && sz' == size && Nat.ble (i+len) es.length) (f ((es.drop i).take len))
 | .str l => .req (size == 1) (f (l.map fun b=>[.int .u8 b.toNat]))
 | _ => .fail
def zhd (E:Env)(nm:Nat)(e:TypeId)(s x:AV):Rd:=
 zba E e fun te => .req (Nat.blt 0 te.size) (zod te.size x fun new=>
  .br (Nat.beq new.length 0) (match lenA s with|some _ => .ret ⟨s,[]⟩|none => .fail)
   (.req (new.all fun e => e.all AV.one) (match s with
     | .nils | .empt => .req (Nat.ble (new.length * (te.bytes+1)) 140737488355328) (put1 (.slc nm 0 new.length te.size) nm (.arr te.size new))
     | .slc k i len sz => .rd k <| zjv fun sz' es => .req (sz == te.size && sz' == te.size && Nat.ble (i+len) es.length && Nat.ble ((len+new.length) * (te.bytes+1)) 140737488355328 && Nat.ble (k+2) 16777216 && Nat.ble (nm+2) 16777216) (.ret ⟨.slc nm 0 (len+new.length) te.size,[(k,none),(nm,some (.arr te.size ((es.drop i).take len++new)))]⟩)
     | _ => .fail)))
def zo4 (E:Env)(nm:Nat)(e:TypeId)(s x:AV):Rd:=
 zba E e fun te=>match s,x with
  | .nils, .int .i64 n => .req (Nat.blt 0 te.size && te.zero.all AV.one) (.req (Nat.blt 0 n.toNat && Nat.ble (n.toNat * (te.bytes+1)) 140737488355328)
   (put1 (.slc nm 0 n.toNat te.size) nm (.arr te.size (List.replicate n.toNat te.zero))))
  | _,_ => .fail
def zel (E:Env)(nm:Nat)(t tx:TypeId)(s x:AV):Rd:=
 zba E t fun ti=>zba E tx fun tix=>match ti.desc,tix.desc with
  | .slice e,.slice _ | .slice e,.string=>zhd E nm e s x
  | .slice e,.int _=>zo4 E nm e s x
  | _,_ => .fail
def yf7 (E:Env)(t:TypeId)(x:AV):Rd:=
 zba E t fun ti=>match ti.desc,x with
  | .slice _,.nils => .ret ⟨.int .i64 0,[]⟩
  | _,_ => .fail
def zk3 (E:Env)(t:TypeId)(x:AV):Rd:=
 zba E t fun ti=>match ti.desc,x with
  | .slice e,.slc k i len sz=>zba E e fun te => .rd k <| zjv fun sz' es => .req (Nat.blt 0 te.size && te.zero.all AV.one && sz == te.size && sz' == te.size)
   (.req (Nat.ble (i+len) es.length) (put1 (.tup []) k (.arr te.size (es.take i++List.replicate len te.zero++es.drop (i+len)))))
  | _,_ => .fail
def mmI (mx:Bool)(a b:Int):Int:=match mx with|true=>if b > a then b else a|false=>if b<a then b else a
def zib (mx:Bool):AV→List AV→Option AV
 | x,[]=>some x
 | .int k a,.int _ b::l=>zib mx (.int k (mmI mx a b)) l
 | _,_=>none
def zul (mx:Bool):List AV→Rd
 | .int k a :: l => match zib mx (.int k a) l with
   | some v => .ret ⟨v,[]⟩
   | none => .fail
 | _ => .fail
def decA (s:List UInt8)(pos:Nat):Nat×Nat:=Utf8.decode ⟨s.toArray⟩ pos
def decC (s:List UInt8)(pos:Nat):Int:=(decA s pos).1
def decW (s:List UInt8)(pos:Nat):Nat:=(decA s pos).2
def zgw:List (Int×AV)→Int→Option AV
 | [],_=>none
 | (a, x) :: l, k => match decide (a = k) with
   | true=>some x
   | false=>zgw l k
def insK:List (Int×AV)→Int→AV→List (Int×AV)
 | [],k,v=>[(k,v)]
 | (a, x) :: l, k, v => match decide (a < k) with
   | true=>(a,x)::insK l k v
   | false => match decide (a = k) with
     | true=>(k,v)::l
     | false=>(k,v)::(a,x)::l
def zyg (ti:TI):AV:=match ti.agg with|true => .agg ti.zero|false=>ti.zero.headD .any
def lkK (z:AV)(ok:Bool):Option AV→AV
 | some v=>match ok with|true => .tup [v,.bool true]|false=>v
 | none=>match ok with|true => .tup [z,.bool false]|false=>z
def onMp (f:List (Int×AV)→Rd):AObj→Rd
 | .mp es=>f es
 | _ => .fail
def zyi (E:Env)(t:TypeId)(key:AV)(f:TI→Int→Rd):Rd:=
 zba E t fun ti=>match ti.desc,key with
  | .map kt et, .int .i64 k => zba E kt fun tk => match tk.desc with
    | .int .i64=>zba E et fun te=>f te k
    | _ => .fail
  | _,_ => .fail
def zqc (E:Env)(t:TypeId)(x key:AV)(ok:Bool):Rd:=
 zyi E t key fun te k=>match x with
  | .nilm => .ret ⟨lkK (zyg te) ok none,[]⟩
  | .rmp es => .ret ⟨lkK (zyg te) ok (zgw es k),[]⟩
  | .mpo nm => .rd nm <| onMp fun es => .ret ⟨lkK (zyg te) ok (zgw es k),[]⟩
  | _ => .fail
def zqb (E:Env)(t:TypeId)(m key v:AV):Rd:=
 zyi E t key fun _ k=>match m with
  | .mpo nm => .rd nm <| onMp fun es=>put1 .any nm (.mp (insK es k v))
  | _ => .fail
def zuk (E:Env)(nm:Nat)(t:TypeId)(x:AV):Rd:=
 zba E t fun ti=>match ti.desc,x with
  | .string,.str s=>put1 (.ptr nm 0 0) nm (.sit s 0)
  | .map _ _,.rmp es=>put1 (.ptr nm 0 0) nm (.mit none es)
  | _,_ => .fail
def yp4 (f:Int×AV→Rd):AObj→Rd
 | .mit (some p) _=>f p
 | _ => .fail
def zo3 (x:AV):Rd:=
 match x with
 | .ptr k 0 0 => .rd k <| yp4 fun p => .ret ⟨.tup [.int .i64 p.1,p.2],[]⟩
 | _ => .fail
def yno (f:List UInt8→Nat→Rd):AObj→Rd
 | .sit s pos=>f s pos
 | _ => .fail
def zlw (x:AV)(str:Bool):Rd:=
 match x,str with
 | .ptr k 0 0,true => .rd k <| yno fun s pos => .br (Nat.blt pos s.length) (put1 (.tup [.bool true,.int .i64 pos,.int .i32 (decC s pos)]) k (.sit s (pos+decW s pos))) (.ret ⟨.tup [.bool false],[]⟩)
 | _,_ => .fail
def zb6:Operand→Bool
 | .const _=>true
 | _=>false
def zhc (E:Env)(nm:Nat)(b:Builtin)(ts:Array TypeId)(args:List AV):Rd:=
 match b,ts.toList,args with
 | .len,[t],[x]=>yf6 E t x
 | .append,[t,tx],[s,x]=>zel E nm t tx s x
 | .cap,[t],[x]=>yf7 E t x
 | .clear,[t],[x]=>zk3 E t x
 | .min,_,l=>zul false l
 | .max,_,l=>zul true l
 | _,_,_ => .fail
def sem (E:Env)(nm:Nat)(ρ:Operand→AV):Op→Rd
 | .move x | .assign x => .ret ⟨ρ x,[]⟩
 | .pick c a b=>zy5 (ρ c) (ρ a) (ρ b)
 | .alloc t=>zup E nm t
 | .box t x=>yf8 E nm t (ρ x)
 | .build t ps=>zuo E t (ps.toList.map fun (i,x)=>(i,ρ x))
 | .buildSlice t n ps=>zir E nm t n (ps.toList.map fun (i,x)=>(i,ρ x))
 | .load t a=>zo2 E t (ρ a)
 | .store t a x=>zuj E t (ρ a) (ρ x)
 | .nilCheck x=>zsz (ρ x)
 | .binOp op t x y _=>zhz E op t (zb6 x || zb6 y) (ρ x) (ρ y)
 | .unOp op _ x=>ym7 op (ρ x)
 | .convert s d x=>zej E s d (ρ x)
 | .makeInterface t x=>zum E t (ρ x)
 | .makeFunc f xs ys => .ret ⟨.fn f (xs.toList.map ρ) (ys.toList.map ρ),[]⟩
 | .makeSlice t l c=>zex E nm t (ρ l) (ρ c)
 | .slice t x lo hi mx=>zei E t (ρ x) (lo.map ρ) (hi.map ρ) (mx.map ρ)
 | .fieldAddr t x f=>zj9 E t (ρ x) f
 | .field t x f=>zun E t (ρ x) f
 | .indexAddr t x i=>zey E t (ρ x) (ρ i)
 | .index t x i=>zk2 E t (ρ x) (ρ i)
 | .typeAssert x _ t ok=>zqe E (ρ x) t ok
 | .extract x i=>zhb (ρ x) i
 | .range t x=>zuk E nm t (ρ x)
 | .makeMap _ none=>put1 (.mpo nm) nm (.mp [])
 | .lookup t x i ok=>zqc E t (ρ x) (ρ i) ok
 | .mapUpdate t m k v=>zqb E t (ρ m) (ρ k) (ρ v)
 | .next x str=>zlw (ρ x) str
 | .entry x=>zo3 (ρ x)
 | .panic x => match ρ x with
   | .ifc t v => .pan (.ifc t v)
   | _ => .fail
 | .call { callee := .builtin b,args,argTypes }=>zhc E nm b argTypes (args.toList.map ρ)
 | _ => .fail
end Go.Ago
section
namespace Go.Ago
def TDOK (P:Program)(d:TypeDesc):TD→Prop
 | .struct fs=>∃fields,d = .struct fields∧fields.size=fs.length∧∀(i off sz:Nat) (t:TypeId),fs[i]? = some (off,sz,t) →
  ∃f info,fields[i]? = some f∧f.offset=off∧f.type=t∧P.info? t=some info∧info.size=sz∧f.name ≠ "_"
 | .slice e=>d = .slice e
 | .array n e=>d = .array n e
 | .int k=>d = .int k
 | .bool=>d = .bool
 | .string=>d = .string
 | .iface=>∃ms,d = .interface ms
 | .ptr=>∃e,d = .pointer e
 | .func=>∃a b c,d = .func a b c
 | .map k e=>d = .map k e
 | .other=>∀ms,d≠.interface ms
def zvs:TypeDesc→Bool
 | .struct _ | .array _ _=>true
 | _=>false
structure TIOK (P:Program)(t:TypeId)(ti:TI):Prop where
 ok:∃info d z,P.info? t=some info∧P.underlying t=some d∧info.size=ti.size∧info.bytes=ti.bytes∧ti.agg=zvs d∧TDOK P d ti.desc∧info.zero=some z ∧
  (∀c w,RelL c w ti.zero z.cells.toList)∧ti.zero.length=ti.size∧(∀x∈ti.zero,x.one=true)∧(∀c w,Rel c w (match ti.agg with|true => .agg ti.zero|false=>ti.zero.headD .any) z)
 eqok:ti.eqok=true→P.eqGuardType P.depth t=false∧(∀fs,ti.desc = .struct fs→P.stoodInHeld t=false)
structure EnvOK (P:Program)(E:Env):Prop where
 ti:∀t i,E.ti t=some i→TIOK P t i
section
variable {H:zah} {x:Eff ⊕ AV}
theorem zao {E:Env}{t:TypeId}{f:TI→Rd}(h:(zba E t f).run H=some x):∃i,E.ti t=some i∧(f i).run H=some x:=by
 unfold zba at h;cases e:E.ti t with
 | none=>rw[e] at h;simp[Rd.run] at h
 | some i=>rw[e] at h;exact⟨i,rfl,h⟩
theorem za1 {b:Bool}{r:Rd}(h:(Rd.req b r).run H=some x):b=true∧r.run H=some x:=by
 cases b with
 | true=>exact⟨rfl,h⟩
 | false=>simp[Rd.run] at h
theorem zgn {k:Nat}{f:AObj→Rd}(h:(Rd.rd k f).run H=some x):∃o,H.get k=some o∧(f o).run H=some x:=by
 simp only[Rd.run] at h;cases e:H.get k with
 | none=>rw[e] at h;simp at h
 | some o=>rw[e] at h;exact⟨o,rfl,h⟩
theorem zfv {o:Option (List AV)}{f:List AV→Rd}(h:(Rd.opt o f).run H=some x):∃e,o=some e∧(f e).run H=some x:=by
 cases o with
 | none=>simp[Rd.run] at h
 | some e=>exact⟨e,rfl,h⟩
theorem znv {b:Bool}{r s:Rd}(h:(Rd.br b r s).run H=some x):(b=true∧r.run H=some x)∨(b=false∧s.run H=some x):=by
 cases b with
 | true=>exact .inl ⟨rfl,h⟩
 | false=>exact .inr ⟨rfl,h⟩
theorem zad (h:Rd.fail.run H=some x):False:=by simp[Rd.run] at h
theorem zan {e:Eff}(h:(Rd.ret e).run H=some x):x = .inl e:=by simp[Rd.run] at h;exact h.symm
theorem zci {v:AV}{k:Nat}{o:AObj}(h:(put1 v k o).run H=some x):k+1<2 ^ 24∧x = .inl ⟨v,[(k,some o)]⟩:=by
 obtain⟨h1,h2⟩:=za1 h;exact⟨by have:=Nat.le_of_ble_eq_true h1;omega,zan h2⟩
end
def OutV (G:zd9)(c:Ctx)(w:World)(H:zah)(nm:Nat):Eff ⊕ AV→Result Value→Prop
 | .inl eff,res=>∃v w' c',res = .ok v w'∧Ext c w H c' w' (Eff.upd H eff.up)∧WRel G c' w' (Eff.upd H eff.up)∧Rel c' w' eff.val v∧∀k,k≠nm→c'.f k=c.f k
 | .inr x,res=>∃v,res = .halt (.panic v) w∧Rel c w x v
section
variable {P:Program} {E:Env} {G:zd9} {c:Ctx} {w:World} {H:zah} {nm:Nat}
theorem zak (hw:WRel G c w H){x:AV}{v:Value}(hr:Rel c w x v):OutV G c w H nm (.inl ⟨x,[]⟩) (.ok v w):=
 ⟨v,w,c,rfl,Ext.refl c w H,hw,hr,fun _ _=>rfl⟩
theorem zbu {t:TypeId}{ti:TI}(h:TIOK P t ti)(w:World):(sizeOf t).run P w = .ok ti.size w:=by
 obtain⟨info,d,z,h1,_,h3,_⟩:=h.ok;simp[sizeOf,typeInfo,h1,h3]
theorem zfb {t:TypeId}{ti:TI}(h:TIOK P t ti)(w:World):(isAgg t).run P w = .ok ti.agg w:=by
 obtain⟨info,d,z,_,h2,_,_,h5,_⟩:=h.ok;rw[h5];unfold isAgg zvs;simp only[Sem.run_bind,run_underlying h2,Result.andThen_ok];cases d<;>rfl
theorem zly {t:TypeId}{ti:TI}(h:TIOK P t ti)(w:World):∃z,(zeroValue t).run P w = .ok z w∧(∀c w,RelL c w ti.zero z.cells.toList)∧ti.zero.length=ti.size∧(∀x∈ti.zero,x.one=true) ∧
 ∀c w,Rel c w (match ti.agg with|true => .agg ti.zero|false=>ti.zero.headD .any) z:=by
 obtain⟨info,d,z,h1,_,_,_,_,_,h7,h8,h9,h10,h11⟩:=h.ok;exact⟨z,by simp[zeroValue,typeInfo,h1,h7],h8,h9,h10,h11⟩
theorem zch {t:TypeId}{ti:TI}(h:TIOK P t ti):∃d,(∀w,(underlying t).run P w = .ok d w)∧P.underlying t=some d∧TDOK P d ti.desc:=by
 obtain⟨info,d,z,_,h2,_,_,_,h6,_⟩:=h.ok;exact⟨d,fun w=>run_underlying h2 w,h2,h6⟩
theorem zvr (hw:WRel G c w H){ti:TI}{t:TypeId}(ht:TIOK P t ti){cs:List AV}{off:Nat}{x:Eff ⊕ AV}(h:(ldv ti cs off).run H=some x){arr:Array Value}(hr:RelL c w cs arr.toList) :
 OutV G c w H nm x ((part t arr off).run P w):=by
 obtain⟨h1,h2⟩:=za1 h;have hle:=Nat.le_of_ble_eq_true h1;unfold part;simp only[Sem.run_bind,zfb ht,Result.andThen_ok];cases ha:ti.agg with
 | true =>
   rw[ha] at h2;obtain rfl:=zan h2;simp only[if_true,Sem.run_bind,zbu ht,Result.andThen_ok,Sem.run_pure];have hl:cs.length=arr.size:=by simpa using hr.1
   have:arr.extract off (off+ti.size)=((arr.toList.drop off).take ti.size).toArray:=by
    apply Array.ext'
    simp[Array.toList_extract,List.extract_eq_take_drop]
   rw[this];exact zak hw (.agg ((hr.drop off).take ti.size).1 ((hr.drop off).take ti.size).2)
 | false =>
   rw[ha] at h2;simp only[Bool.false_eq_true,if_false];dsimp only at h2;cases hx:cs[off]? with
   | none=>rw[hx] at h2;exact(zad h2).elim
   | some y =>
     rw[hx] at h2;obtain rfl:=zan h2;obtain⟨v,hv,hrv⟩:=hr.get hx;have:arr[off]? = some v:=by simpa using hv
     rw[this];exact zak hw hrv
theorem zog {cs e:List AV}{off n:Nat}(h:zje cs off n=some e):off+n≤cs.length∧e=(cs.drop off).take n:=by
 unfold zje at h;cases hb:Nat.ble (off+n) cs.length with
 | true=>rw[hb] at h;simp only[Option.some.injEq] at h;exact⟨Nat.le_of_ble_eq_true hb,h.symm⟩
 | false=>rw[hb] at h;cases h
theorem yaf {ti:TI}{cs e:List AV}{off:Nat}(he:zje cs off ti.size=some e){x:Eff ⊕ AV}(h:(ldv ti e 0).run H=some x):(ldv ti cs off).run H=some x:=by
 obtain⟨h1,rfl⟩:=zog he;obtain⟨h2,h3⟩:=za1 h;have h4:Nat.ble (off+ti.size) cs.length=true:=Nat.ble_eq_true_of_le h1;unfold ldv;rw[h4];show (match ti.agg with
  | true=>Rd.ret ⟨.agg ((cs.drop off).take ti.size),[]⟩
  | false => match cs[off]? with
    | some x => .ret ⟨x,[]⟩
    | none => .fail).run H=some x
 cases ha:ti.agg with
 | true =>
   rw[ha] at h3
   simpa[List.take_take] using h3
 | false =>
   rw[ha] at h3;dsimp only at h3 ⊢;rw[List.getElem?_take] at h3
   by_cases hs:0<ti.size
   · simp only [hs, if_true, List.getElem?_drop, Nat.add_zero] at h3
     exact h3
   · simp only [hs, if_false] at h3
     exact(zad h3).elim
theorem zn5 (hE:EnvOK P E)(hw:WRel G c w H){t:TypeId}{a:AV}{v:Value}(ha:Rel c w a v){x:Eff ⊕ AV}(h:(zo2 E t a).run H=some x) :
 ∃y u,x = .inl ⟨y,[]⟩∧(Instr.loadAt t v).run P w = .ok u w∧Rel c w y u:=by
 cases ha with
 | @ptr _ _ k i off B hf =>
   obtain⟨ti,hti,h⟩:=zao h;have ht:=hE.ti t ti hti;obtain⟨o,ho,h⟩:=zgn h;cases o with
   | sit _ _=>exact(zad h).elim
   | lp _ _ _ _ _=>exact(zad h).elim
   | mp _=>exact(zad h).elim
   | mit _ _=>exact(zad h).elim
   | arr sz es =>
     obtain⟨e,he,h⟩:=zfv h;obtain⟨h1,h2⟩:=za1 h;have hle:=Nat.le_of_ble_eq_true h1;have hs:=(hw.sz ho hf).1;simp only[Instr.loadAt,Instr.sureAddr,Sem.run_bind,Sem.run_pure,Result.andThen_ok,loadVar,zfb ht,hs];cases hag:ti.agg with
     | true =>
       rw[hag] at h2;obtain rfl:=zan h2;obtain⟨vs,hrun,hrel⟩:=hw.loadCells P ho hf he off ti.size hle;simp only[if_true,Sem.run_bind,zbu ht,Result.andThen_ok,hrun,Sem.run_pure];exact⟨_,_,rfl,rfl,.agg hrel.1 hrel.2⟩
     | false =>
       rw[hag] at h2;dsimp only at h2;cases hx:e[off]? with
       | none=>rw[hx] at h2;exact(zad h2).elim
       | some y =>
         rw[hx] at h2;obtain rfl:=zan h2;obtain⟨v,hv,_,hr⟩:=hw.cell ho hf he hx;simp only[Bool.false_eq_true,if_false,run_load,hv];exact⟨_,_,rfl,rfl,hr⟩
 | @rptr _ _ cs a vs hi hl hc hr =>
   obtain⟨ti,hti,h⟩:=zao h;have ht:=hE.ti t ti hti;obtain⟨h1,h2⟩:=za1 h;have hle:=Nat.le_of_ble_eq_true h1;simp only[Instr.loadAt,Instr.sureAddr,Sem.run_bind,Sem.run_pure,Result.andThen_ok,loadVar,zfb ht];cases hag:ti.agg with
   | true =>
     rw[hag] at h2;obtain rfl:=zan h2;obtain⟨hrun,hrel⟩:=zpd (c:=c.bare) P hl hc hr ti.size (by omega)
     have hrel:=hrel.of_bare;simp only[if_true,Sem.run_bind,zbu ht,Result.andThen_ok,hrun,Sem.run_pure];exact⟨_,_,rfl,rfl,.agg hrel.1 hrel.2⟩
   | false =>
     rw[hag] at h2;dsimp only at h2;cases hx:cs[0]? with
     | none=>rw[hx] at h2;exact(zad h2).elim
     | some y =>
       rw[hx] at h2;obtain rfl:=zan h2;obtain⟨v,hv,hrv⟩:=RelL.get (c:=c.bare) (w:=w) ⟨hl,hr⟩ hx;have hrv:=hrv.of_bare;have:=hc 0 v hv;rw[show a.add 0=a by simp[Addr.add]] at this
       simp only[Bool.false_eq_true,if_false,run_load,this];exact⟨_,_,rfl,rfl,hrv⟩
 | _=>exact(zad h).elim
theorem zxh (hE:EnvOK P E)(hw:WRel G c w H){t:TypeId}{a:AV}{v:Value}(ha:Rel c w a v){x:Eff ⊕ AV}(h:(zo2 E t a).run H=some x) :
 OutV G c w H nm x ((Instr.loadAt t v).run P w):=by
 obtain⟨y,u,rfl,h1,h2⟩:=zn5 hE hw ha h;rw[h1];exact zak hw h2
theorem yc0 {xs:List AV}(h:xs.all AV.one=true):∀x∈xs,x.one=true:=by simpa using h
theorem zmy {v:AV}(h:v.cells.all AV.one=true):v.one=true∨∃cs,v = .agg cs:=by
 cases v with
 | agg cs=>exact .inr ⟨cs,rfl⟩
 | _=>left;simpa[AV.cells] using h
theorem zsu {es:List (List AV)}{sz i off:Nat}{e xs:List AV}(he:es[i]? = some e)(hl:∀(i:Nat) e,es[i]? = some e→e.length=sz)(hn:off+xs.length≤e.length) :
 (∀(i':Nat) e',(es.set i (zgl e off xs))[i']? = some e'→e'.length=sz) ∧
 ∀(i' j:Nat) e' x,(es.set i (zgl e off xs))[i']? = some e'→e'[j]? = some x→(i' * sz+j<i * sz+off∧∃e0,es[i']? = some e0∧e0[j]? = some x) ∨
  (i * sz+off≤i' * sz+j∧i' * sz+j<i * sz+off+xs.length∧xs[i' * sz+j - (i * sz+off)]? = some x)∨(i * sz+off+xs.length≤i' * sz+j∧∃e0,es[i']? = some e0∧e0[j]? = some x):=by
 have hel:=hl i e he;have hi:i<es.length:=(List.getElem?_eq_some_iff.1 he).1
 constructor
 · intro i' e' h
   rw[List.getElem?_set] at h
   by_cases hii:i=i'
   · subst hii
     simp[hi] at h;subst h;rw[zim _ _ _ hn];exact hel
   · simp[hii] at h;exact hl i' e' h
 · intro i' j e' x h hj
   rw[List.getElem?_set] at h
   by_cases hii:i=i'
   · subst hii
     simp[hi] at h;subst h;rw[zjp _ _ _ _ hn] at hj
     by_cases h1:j<off
     · rw[if_pos h1] at hj;exact .inl ⟨by omega,e,he,hj⟩
     · rw [if_neg h1] at hj
       by_cases h2:j<off+xs.length
       · rw [if_pos h2] at hj
         exact .inr (.inl ⟨by omega,by omega,by rw[show i * sz+j - (i * sz+off)=j - off by omega];exact hj⟩)
       · rw[if_neg h2] at hj;exact .inr (.inr ⟨by omega,e,he,hj⟩)
   · simp [hii] at h
     have hjl:j<sz:=by have:=(List.getElem?_eq_some_iff.1 hj).1;rw[hl i' e' h] at this;exact this
     rcases Nat.lt_or_gt_of_ne hii with hlt|hlt
     · right; right
       have:(i+1) * sz≤i' * sz:=Nat.mul_le_mul_right _ hlt;rw[Nat.add_mul] at this;exact⟨by omega,e',h,hj⟩
     · left
       have:(i'+1) * sz≤i * sz:=Nat.mul_le_mul_right _ hlt;rw[Nat.add_mul] at this;exact⟨by omega,e',h,hj⟩
theorem zst (hE:EnvOK P E)(hw:WRel G c w H){t:TypeId}{a y:AV}{v u:Value}(ha:Rel c w a v)(hy:Rel c w y u){x:Eff ⊕ AV}(h:(zuj E t a y).run H=some x) :
 ∃eff w' c',x = .inl eff∧(Instr.storeAt t v u).run P w = .ok () w'∧Ext c w H c' w' (Eff.upd H eff.up)∧WRel G c' w' (Eff.upd H eff.up)∧eff.val = .any∧∀k,c'.f k=c.f k:=by
 cases ha with
 | @ptr _ _ k i off B hf =>
   obtain⟨ti,hti,h⟩:=zao h;have ht:=hE.ti t ti hti;obtain⟨h0,h⟩:=za1 h;obtain⟨o,ho,h⟩:=zgn h;cases o with
   | sit _ _=>exact(zad h).elim
   | lp _ _ _ _ _=>exact(zad h).elim
   | mp _=>exact(zad h).elim
   | mit _ _=>exact(zad h).elim
   | arr sz es =>
     obtain⟨e,he,h⟩:=zfv h;obtain⟨h1,h2⟩:=za1 h;obtain⟨_,hr0,h2⟩:=zfv h2;cases hr0;obtain⟨hk24,rfl⟩:=zci h2;have hle:=Nat.le_of_ble_eq_true h1;simp only[Bool.and_eq_true,beq_iff_eq] at h0;obtain⟨hlen,hone⟩:=h0;obtain⟨hs,hn,hel⟩:=hw.sz ho hf;have hc:=hy.cells (zmy hone);have hcl:u.cells.size=ti.size:=by rw[← hlen];simpa using hc.1.symm
     have hi:i<es.length:=(List.getElem?_eq_some_iff.1 he).1;have hsp:=zsu (xs:=y.cells) (off:=off) he hel (by omega)
     have hB:i * sz+off+y.cells.length≤B.n:=by
      have:=hel i e he;have h3:(i+1) * sz≤es.length * sz:=Nat.mul_le_mul_right _ hi;rw[Nat.add_mul] at h3;omega
     obtain⟨w',hrun,hext,hw'⟩:=hw.store ho hf hk24 (i * sz+off) hc (yc0 hone) hB (by simpa using hn) hsp.1 hsp.2 P
     refine⟨_,w',c,rfl,?_,hext,hw',rfl,fun _=>rfl⟩
     simp only[Instr.storeAt,Instr.sureAddr,Sem.run_bind,Sem.run_pure,Result.andThen_ok,storeVar,zbu ht,hcl,ne_eq,not_true,if_false,hs];exact hrun
 | _=>exact(zad h).elim
theorem Ctx.bind_other {k:Nat}{B:Blk}:∀j,j≠k→(c.bind k B).f j=c.f j:=fun j hj=>by simp[Ctx.bind,hj]
theorem yck (hE:EnvOK P E)(hw:WRel G c w H)(hnm:c.f nm=none){t:TypeId}{y:AV}{u:Value}(hy:Rel c w y u){x:Eff ⊕ AV}(h:(yf8 E nm t y).run H=some x) :
 OutV G c w H nm x ((Instr.box t u).run P w):=by
 obtain⟨ti,hti,h⟩:=zao h;have ht:=hE.ti t ti hti;obtain⟨h0,h⟩:=za1 h;obtain⟨_,hr0,h⟩:=zfv h;cases hr0;obtain⟨hk24,rfl⟩:=zci h;simp only[Bool.and_eq_true,beq_iff_eq] at h0;obtain⟨hlen,hone⟩:=h0;have hc:=hy.cells (zmy hone);have := hw.alloc hnm hk24 t (arr := u.cells) (sz := ti.size) (es := [y.cells]) (n := ti.size) (by have := hc.1; simp at this; omega) (by simp) (fun i e he=>by
  cases i with
  | zero =>
    simp at he;subst he;refine⟨hlen,fun j x hj=>?_⟩
    obtain⟨v,hv,hr⟩:=hc.get hj;exact⟨v,by simpa using hv,hr⟩
  | succ i=>simp at he)
 refine⟨.pointer (some ⟨w.heap.size,0,none⟩),_,_,?_,this.1,this.2,?_,Ctx.bind_other⟩
 · simp only[Instr.box,newVar,newRow,Sem.run_bind,run_newObj_alloc,Result.andThen_ok,Sem.run_pure]
 · have hr := Rel.ptr (c := c.bind nm ⟨w.heap.size, 0, ti.size, ti.size⟩) (w := w.alloc (.cells u.cells t)) (k := nm) (i := 0) (off := 0) (B := ⟨w.heap.size, 0, ti.size, ti.size⟩) (by simp [Ctx.bind])
   simpa using hr
theorem zt0 (hE:EnvOK P E)(hw:WRel G c w H)(hnm:c.f nm=none){t:TypeId}{x:Eff ⊕ AV}(h:(zup E nm t).run H=some x) :
 OutV G c w H nm x ((Instr.alloc t true (.tuple #[])).run P w):=by
 obtain⟨ti,hti,h⟩:=zao h;have ht:=hE.ti t ti hti;obtain⟨hk24,rfl⟩:=zci h;obtain⟨z,hz,hzr,hzl,_,_⟩:=zly ht w;have hc:=hzr c w;have := hw.alloc hnm hk24 t (arr := z.cells) (sz := ti.size) (es := [ti.zero]) (n := ti.size) (by have := hc.1; simp at this; omega) (by simp) (fun i e he=>by
  cases i with
  | zero =>
    simp at he;subst he;refine⟨hzl,fun j x hj=>?_⟩
    obtain⟨v,hv,hr⟩:=hc.get hj;exact⟨v,by simpa using hv,hr⟩
  | succ i=>simp at he)
 refine⟨.pointer (some ⟨w.heap.size,0,none⟩),_,_,?_,this.1,this.2,?_,Ctx.bind_other⟩
 · simp only[Instr.alloc,newVar,newRow,Sem.run_bind,run_newObj_alloc,Result.andThen_ok,Sem.run_pure,hz]
 · have hr := Rel.ptr (c := c.bind nm ⟨w.heap.size, 0, ti.size, ti.size⟩) (w := w.alloc (.cells z.cells t)) (k := nm) (i := 0) (off := 0) (B := ⟨w.heap.size, 0, ti.size, ti.size⟩) (by simp [Ctx.bind])
   simpa using hr
theorem zmo (hE:EnvOK P E)(hw:WRel G c w H){t:TypeId}{a:AV}{v:Value}(ha:Rel c w a v){f:Nat}{x:Eff ⊕ AV}(h:(zj9 E t a f).run H=some x) :
 OutV G c w H nm x ((Instr.fieldAt t v f).run P w):=by
 obtain⟨ti,hti,h⟩:=zao h;have ht:=hE.ti t ti hti;obtain⟨d,hd,_,hdd⟩:=zch ht;cases hdesc:ti.desc with
 | struct fs =>
   rw[hdesc] at h hdd;dsimp only at h;cases hf:fs[f]? with
   | none=>rw[hf] at h;exact(zad h).elim
   | some q =>
     obtain⟨off,sz,ft⟩:=q;rw[hf] at h;dsimp only at h;obtain⟨h0,h⟩:=za1 h;have h0:0<sz:=by simpa using h0
     obtain⟨fields,rfl,hsz,hfs⟩:=hdd;obtain⟨fd,info,hfd,hoff,hft,hinfo,hisz,_⟩:=hfs f off sz ft hf;have hsize:(sizeOf fd.type).run P w = .ok sz w:=by simp[sizeOf,typeInfo,hft,hinfo,hisz]
     have hne:¬sz=0:=by omega
     cases ha with
     | @ptr _ _ k i o B hfB =>
       obtain rfl:=zan h;simp only[Instr.fieldAt,Sem.run_bind,hd,Result.andThen_ok,hfd,Instr.sureAddr,Sem.run_pure,fieldPlace,hsize,hne,if_false,zcm,hoff];refine zak hw ?_;have:=Rel.ptr (c:=c) (w:=w) (i:=i) (off:=o+off) hfB
       rwa [show B.s+(i * B.sz+(o+off))=B.s+(i * B.sz+o)+off by omega] at this
     | @rptr _ _ cs a vs hi hl hc hr =>
       obtain rfl:=zan h;simp only[Instr.fieldAt,Sem.run_bind,hd,Result.andThen_ok,hfd,Instr.sureAddr,Sem.run_pure,fieldPlace,hsize,hne,if_false,hoff];have hR:=(RelL.drop (c:=c.bare) (w:=w) ⟨hl,hr⟩ off);refine zak hw (Rel.rptr (by rw[zet];exact hi) hR.1 (fun i v e=>?_) hR.2)
       rw[zhu];rw[List.getElem?_drop] at e;exact hc _ v e
     | _=>exact(zad h).elim
 | _=>rw[hdesc] at h;exact(zad h).elim
theorem zie {n:Int}{len:Nat}(h:inB n len=true):0≤n∧n<len:=by simpa[inB] using h
theorem zme (hE:EnvOK P E)(hw:WRel G c w H){t:TypeId}{a ix:AV}{v iv:Value}(ha:Rel c w a v)(hix:Rel c w ix iv){x:Eff ⊕ AV}(h:(zey E t a ix).run H=some x) :
 OutV G c w H nm x ((Instr.indexAt t v iv).run P w):=by
 obtain⟨ti,hti,h⟩:=zao h;have ht:=hE.ti t ti hti;obtain⟨d,hd,_,hdd⟩:=zch ht;cases hdesc:ti.desc with
 | slice e =>
   rw[hdesc] at h hdd;obtain rfl:d = .slice e:=hdd;cases hix with
   | int k n =>
     obtain⟨te,hte,h⟩:=zao h;have hse:=zbu (hE.ti e te hte) w;cases ha with
     | @slc _ _ ka i len sz cap B a hf hs hlen hcap =>
       obtain⟨h0,h⟩:=za1 h;obtain rfl:=zan h;simp only[Bool.and_eq_true,beq_iff_eq] at h0;obtain⟨hsz,hb⟩:=h0;obtain⟨hb0,hb1⟩:=zie hb;obtain⟨rfl,_⟩:=hcap (by omega)
       simp only[Instr.indexAt,asIntOf,Sem.run_bind,Sem.run_pure,hd,Result.andThen_ok,hb0,hb1,and_self,if_true,hse,zcm];refine zak hw ?_;have:=Rel.ptr (c:=c) (w:=w) (i:=i+n.toNat) (off:=0) hf;rw[hs,Nat.add_mul,Nat.add_zero,← Nat.add_assoc] at this;rw[← hsz];exact this
     | @rsl _ _ sz es cap a vs hlen hi hl hc hr =>
       obtain⟨h0,h⟩:=za1 h;obtain⟨cs,hcs,h⟩:=zfv h;obtain rfl:=zan h;simp only[Bool.and_eq_true,beq_iff_eq] at h0;obtain⟨hsz,hb⟩:=h0;obtain⟨hb0,hb1⟩:=zie hb;simp only[Instr.indexAt,asIntOf,Sem.run_bind,Sem.run_pure,hd,Result.andThen_ok,hb0,hb1,and_self,if_true,hse];have hlt:n.toNat<es.length:=by omega
       have hcl:=hl _ cs hcs;refine zak hw (Rel.rptr (vs:=(List.range sz).map fun j=>vs n.toNat j) (by rw[zet];exact hi (by omega)) (by simp[hcl]) (fun j v e'=>?_) (fun j y v e' e''=>?_))
       · have hj : j < sz := by have := (List.getElem?_eq_some_iff.1 e').1; simpa using this
         simp[hj] at e';subst e';rw[zhu,← hsz];exact hc _ j hlt hj
       · have hj : j < sz := by have := (List.getElem?_eq_some_iff.1 e'').1; simpa using this
         simp[hj] at e'';subst e'';exact hr _ j cs y hcs e'
     | rnil sz =>
       obtain⟨h0,h⟩:=za1 h;simp only[Bool.and_eq_true] at h0;obtain⟨hb0,hb1⟩:=zie h0.2;simp at hb1;omega
     | _=>exact(zad h).elim
   | _=>exact(zad h).elim
 | array len e =>
   rw[hdesc] at h hdd;obtain rfl:d = .array len e:=hdd;cases hix with
   | int k n =>
     obtain⟨te,hte,h⟩:=zao h;have hse:=zbu (hE.ti e te hte) w;cases ha with
     | @ptr _ _ ka i off B hf =>
       obtain⟨h0,h⟩:=za1 h;obtain rfl:=zan h;obtain⟨hb0,hb1⟩:=zie h0;simp only[Instr.indexAt,asIntOf,Sem.run_bind,Sem.run_pure,hd,Result.andThen_ok,Instr.sureAddr,hb0,hb1,and_self,if_true,hse,zcm];refine zak hw ?_;have:=Rel.ptr (c:=c) (w:=w) (i:=i) (off:=off+n.toNat * te.size) hf
       rwa [← Nat.add_assoc (i * B.sz),← Nat.add_assoc B.s] at this
     | @rptr _ _ cs a vs hi hl hc hr =>
       obtain⟨h0,h⟩:=za1 h;obtain⟨ch,hch,h⟩:=zfv h;obtain⟨_,rfl⟩:=zog hch;obtain rfl:=zan h;obtain⟨hb0,hb1⟩:=zie h0;simp only[Instr.indexAt,asIntOf,Sem.run_bind,Sem.run_pure,hd,Result.andThen_ok,Instr.sureAddr,hb0,hb1,and_self,if_true,hse];have hR:=RelL.take (RelL.drop (c:=c.bare) (w:=w) ⟨hl,hr⟩ (n.toNat * te.size)) te.size;refine zak hw (Rel.rptr (by rw[zet];exact hi) hR.1 (fun i v e=>?_) hR.2)
       rw[zhu];rw[List.getElem?_take] at e
       by_cases hi':i<te.size
       · simp only [hi', if_true, List.getElem?_drop] at e
         exact hc _ v e
       · simp[hi'] at e
     | _=>exact(zad h).elim
   | _=>exact(zad h).elim
 | _=>rw[hdesc] at h;exact(zad h).elim
theorem ztj (hE:EnvOK P E)(hw:WRel G c w H){t:TypeId}{a:AV}{v:Value}(ha:Rel c w a v){f:Nat}{x:Eff ⊕ AV}(h:(zun E t a f).run H=some x) :
 OutV G c w H nm x ((Instr.field t v f).run P w):=by
 obtain⟨ti,hti,h⟩:=zao h;have ht:=hE.ti t ti hti;obtain⟨d,hd,_,hdd⟩:=zch ht;cases hdesc:ti.desc with
 | struct fs =>
   rw[hdesc] at h hdd;cases ha with
   | @agg _ _ cs vs hl hr =>
     dsimp only at h;cases hf:fs[f]? with
     | none=>rw[hf] at h;exact(zad h).elim
     | some q =>
       obtain⟨off,sz,ft⟩:=q;rw[hf] at h;obtain⟨tf,htf,h⟩:=zao h;obtain⟨fields,rfl,hsz,hfs⟩:=hdd;obtain⟨fd,info,hfd,hoff,hft,hinfo,hisz,_⟩:=hfs f off sz ft hf;simp only[Instr.field,Sem.run_bind,hd,Result.andThen_ok,hfd,asAgg,Sem.run_pure,hft,hoff];exact zvr hw (hE.ti ft tf htf) h ⟨by simpa using hl,by simpa using hr⟩
   | _=>exact(zad h).elim
 | _=>rw[hdesc] at h;exact(zad h).elim
theorem zs9 (hE:EnvOK P E)(hw:WRel G c w H){t:TypeId}{a ix:AV}{v iv:Value}(ha:Rel c w a v)(hix:Rel c w ix iv){x:Eff ⊕ AV}(h:(zk2 E t a ix).run H=some x) :
 OutV G c w H nm x ((Instr.index t v iv).run P w):=by
 obtain⟨ti,hti,h⟩:=zao h;have ht:=hE.ti t ti hti;obtain⟨d,hd,_,hdd⟩:=zch ht;cases hdesc:ti.desc with
 | array len e =>
   rw[hdesc] at h hdd;obtain rfl:d = .array len e:=hdd;cases hix with
   | int k n =>
     cases ha with
     | @agg _ _ cs vs hl hr =>
       obtain⟨te,hte,h⟩:=zao h;obtain⟨h0,h⟩:=za1 h;obtain⟨ch,hch,h⟩:=zfv h;obtain⟨hb0,hb1⟩:=zie h0;simp only[Instr.index,asIntOf,Sem.run_bind,Sem.run_pure,hd,Result.andThen_ok,hb0,hb1,and_self,if_true,zbu (hE.ti e te hte) w];exact zvr hw (hE.ti e te hte) (yaf hch h) ⟨by simpa using hl,by simpa using hr⟩
     | _=>exact(zad h).elim
   | _=>exact(zad h).elim
 | string =>
   rw[hdesc] at h hdd;obtain rfl:d = .string:=hdd;cases hix with
   | int k n =>
     cases ha with
     | str l =>
       obtain⟨h0,h⟩:=za1 h;obtain rfl:=zan h;obtain⟨hb0,hb1⟩:=zie h0;have hlt:n.toNat<l.length:=by omega
       have hg:(⟨l.toArray⟩:ByteArray)[n.toNat]? = some l[n.toNat]:=by
        have hsz:n.toNat<(⟨l.toArray⟩:ByteArray).size:=by simpa[ByteArray.size] using hlt
        rw[getElem?_pos (⟨l.toArray⟩:ByteArray) n.toNat hsz];rfl
       simp only[Instr.index,asIntOf,Sem.run_bind,Sem.run_pure,hd,Result.andThen_ok,hb0,if_true,hg];have:l.getD n.toNat 0=l[n.toNat]:=by simp[List.getD,List.getElem?_eq_getElem hlt]
       rw[this];exact zak hw (.int .u8 _)
     | _=>exact(zad h).elim
   | _=>exact(zad h).elim
 | _=>rw[hdesc] at h;exact(zad h).elim
end
end Go.Ago
end
