/-
  Part 1: lemmas, each with its own conditions.
-/
import Derived.Below
import Derived.Calls
import Derived.Laws.CopyRow
import Derived.Laws.Cells
import Derived.Laws.Entries
import Derived.Laws.NewBlocks
set_option maxRecDepth 100000
set_option maxHeartbeats 0
set_option linter.all false
section
theorem Or.ip {a b c d:Prop}(h:a∨b)(f:a→c)(g:b→d):c∨d:=h.elim (fun x=>.inl (f x)) fun x=>.inr (g x)
namespace Go.Ago
inductive AV where
 | any
 | bool (b:Bool)
 | int (k:IntKind) (n:Int)
 | str (l:List UInt8)
 | nilp
 | ptr (k i off:Nat)
 | rptr (cs:List AV)
 | nils
 | empt
 | slc (k i len sz:Nat)
 | rsl (sz:Nat) (es:List (List AV))
 | nilm
 | mapp (k:Nat)
 | mpo (k:Nat)
 | rmp (es:List (Int×AV))
 | fn (f:Fn) (first cap:List AV)
 | nilf
 | ifc (t:TypeId) (v:AV)
 | nili
 | agg (cs:List AV)
 | tup (vs:List AV)
 deriving Inhabited
def AV.one:AV→Bool
 | .any | .agg _ | .tup _=>false
 | _=>true
def AV.cells:AV→List AV
 | .agg cs=>cs
 | v=>[v]
inductive Tr (α:Type) where
 | nil
 | node (l:Tr α) (x:Option α) (r:Tr α)
 | put (k:Nat) (v:Option α) (t:Tr α)
 | fam (A N:Nat) (g:Nat→Option α) (t:Tr α)
 deriving Inhabited
namespace Tr
variable {α:Type}
def get:Tr α→Nat→Option α
 | .nil,_=>none
 | .node l x r,n=>bif n == 0 then x else bif n % 2 == 1 then l.get (n / 2) else r.get (n / 2 - 1)
 | .put k v t,n=>bif Nat.beq n k then v else t.get n
 | .fam A N g t,n=>bif Nat.ble A n && Nat.blt n (A+N) then g (n - A) else t.get n
def ins:Nat→Nat→Option α→Tr α→Tr α
 | 0,_,_,t=>t
 | d+1,n,y,.nil=>bif n == 0 then .node .nil y .nil else bif n % 2 == 1 then .node (ins d (n / 2) y .nil) none .nil else .node .nil none (ins d (n / 2 - 1) y .nil)
 | _+1,n,y,.put k v t => .put n y (.put k v t)
 | _+1,n,y,.fam A N g t => .put n y (.fam A N g t)
 | d+1,n,y,.node l x r=>bif n == 0 then .node l y r else bif n % 2 == 1 then .node (ins d (n / 2) y l) x r else .node l x (ins d (n / 2 - 1) y r)
theorem get_ins (d:Nat):∀(n:Nat) (y:Option α) (t:Tr α) (m:Nat),n+1<2 ^ d→(t.ins d n y).get m=if m=n then y else t.get m:=by
 induction d with
 | zero=>intro n y t m h;simp at h
 | succ d ih =>
   intro n y t m h;have h2:n+1<2 * 2 ^ d:=by rw[Nat.pow_succ] at h;omega
   have key:∀(l r:Tr α) (x:Option α),(Tr.ins (d+1) n y (.node l x r)).get m=if m=n then y else (Tr.node l x r).get m:=by
    intro l r x
    by_cases h0:n=0
    · subst h0
      by_cases hm:m=0
      · subst hm;simp[ins,get]
      · have : (m == 0) = false := by simpa using hm
        simp[ins,get,hm,this]
    · have e0 : (n == 0) = false := by simpa using h0
      by_cases h1:n % 2=1
      · have e1 : (n % 2 == 1) = true := by simpa using h1
        by_cases hm:m=0
        · subst hm
          have:¬0=n:=fun e=>h0 e.symm
          simp[ins,get,e0,e1,this]
        · have em : (m == 0) = false := by simpa using hm
          by_cases hm1:m % 2=1
          · have em1 : (m % 2 == 1) = true := by simpa using hm1
            have hi:=ih (n / 2) y l (m / 2) (by omega)
            have hiff:(m / 2=n / 2)↔m=n:=by constructor<;>intro h'<;>omega
            simp only[ins,get,e0,e1,em,em1,cond_true,cond_false,hi,hiff]
          · have em1 : (m % 2 == 1) = false := by simpa using hm1
            have hne:¬m=n:=by intro e;subst e;exact hm1 h1
            simp[ins,get,e0,e1,em,em1,hne]
      · have e1 : (n % 2 == 1) = false := by simpa using h1
        by_cases hm:m=0
        · subst hm
          have:¬0=n:=fun e=>h0 e.symm
          simp[ins,get,e0,e1,this]
        · have em : (m == 0) = false := by simpa using hm
          by_cases hm1:m % 2=1
          · have em1 : (m % 2 == 1) = true := by simpa using hm1
            have hne:¬m=n:=by intro e;subst e;exact h1 hm1
            simp[ins,get,e0,e1,em,em1,hne]
          · have em1 : (m % 2 == 1) = false := by simpa using hm1
            have hi:=ih (n / 2 - 1) y r (m / 2 - 1) (by omega)
            have hiff:(m / 2 - 1=n / 2 - 1)↔m=n:=by constructor<;>intro h'<;>omega
            simp only[ins,get,e0,e1,em,em1,cond_false,hi,hiff]
   cases t with
   | node l x r=>exact key l r x
   | put k v t =>
     simp only[ins];rw[get]
     by_cases hm:m=n
     · subst hm;simp
     · have:Nat.beq m n=false:=by
        cases e:Nat.beq m n with
        | false=>rfl
        | true=>exact absurd (Nat.eq_of_beq_eq_true e) hm
       simp[hm,this]
   | fam A N g t =>
     simp only[ins];rw[get]
     by_cases hm:m=n
     · subst hm;simp
     · have:Nat.beq m n=false:=by
        cases e:Nat.beq m n with
        | false=>rfl
        | true=>exact absurd (Nat.eq_of_beq_eq_true e) hm
       simp[hm,this]
   | nil =>
     have:=key .nil .nil none;have e1:Tr.ins (d+1) n y (.node .nil none .nil)=Tr.ins (d+1) n y .nil:=by
      simp only[ins]
     have e2:(Tr.node .nil none .nil:Tr α).get m=(Tr.nil:Tr α).get m:=by
      simp only[get];cases (m == 0)<;>cases (m % 2 == 1)<;>rfl
     rw[← e1,this,e2]
def set (_:Nat)(n:Nat)(y:Option α)(t:Tr α):Tr α := .put n y t
theorem get_set (d:Nat)(n:Nat)(y:Option α)(t:Tr α)(m:Nat)(_:n+1<2 ^ d):(t.set d n y).get m=if m=n then y else t.get m:=by
 show(Tr.put n y t).get m=_;rw[get]
 by_cases hm:m=n
 · subst hm;simp
 · have:Nat.beq m n=false:=by
    cases e:Nat.beq m n with
    | false=>rfl
    | true=>exact absurd (Nat.eq_of_beq_eq_true e) hm
   simp[hm,this]
end Tr
inductive AObj where
 | arr (sz:Nat) (es:List (List AV))
 | sit (s:List UInt8) (pos:Nat)
 | lp (st:LoopState) (pend:Option Code) (sl:List (Nat×AV)) (nsl:Nat) (code:Code)
 | mp (es:List (Int×AV))
 | mit (cur:Option (Int×AV)) (es:List (Int×AV))
 deriving Inhabited
abbrev zah:=Tr AObj
structure Blk where
 b:Nat
 s:Nat
 n:Nat
 sz:Nat
structure Ctx where
 f:Nat→Option Blk
 imm:Nat→Prop
structure Ctx.le (c c':Ctx):Prop where
 f:∀k p,c.f k=some p→c'.f k=some p
 imm:∀b,c.imm b→c'.imm b
def Ctx.bare (c:Ctx):Ctx:=⟨fun _=>none,c.imm⟩
theorem Ctx.bare_le (c:Ctx):c.bare.le c:=⟨fun _ _ h=>(by cases h),fun _ h=>h⟩
theorem Ctx.le.bare {c c':Ctx}(h:c.le c'):c.bare.le c'.bare:=⟨fun _ _ h=>(by cases h),h.imm⟩
theorem Ctx.le.refl (c:Ctx):c.le c:=⟨fun _ _ h=>h,fun _ h=>h⟩
theorem Ctx.le.trans {a b c:Ctx}(h:a.le b)(h':b.le c):a.le c:=⟨fun k p e=>h'.f k p (h.f k p e),fun k e=>h'.imm k (h.imm k e)⟩
structure MapOK (mes:Array MapEntry)(clock:Nat):Prop where
 lt:∀e∈mes.toList,e.born<clock
 nd:(mes.toList.map (·.born)).Nodup
def RisK (es:List (Int×AV)):Prop:=(es.map (·.1)).Pairwise (·<·)
inductive Rel:Ctx→World→AV→Value→Prop where
 | any {c:Ctx} {w:World} (v:Value):Rel c w .any v
 | bool {c:Ctx} {w:World} (b:Bool):Rel c w (.bool b) (.bool b)
 | int {c:Ctx} {w:World} (k:IntKind) (n:Int):Rel c w (.int k n) (.int k n)
 | str {c:Ctx} {w:World} (l:List UInt8):Rel c w (.str l) (.string ⟨l.toArray⟩)
 | nilp {c:Ctx} {w:World}:Rel c w .nilp (.pointer none)
 | ptr {c:Ctx} {w:World} {k i off:Nat} {B:Blk} (h:c.f k=some B):Rel c w (.ptr k i off) (.pointer (some ⟨B.b,B.s+(i * B.sz+off),none⟩))
 | rptr {c:Ctx} {w:World} {cs:List AV} {a:Addr} {vs:List Value} (hi:c.imm a.block) (hl:cs.length=vs.length) (hc:∀(i:Nat) v,vs[i]? = some v→w.cell? (a.add i)=some v)
  (hr:∀(i:Nat) x v,cs[i]? = some x→vs[i]? = some v→Rel c.bare w x v):Rel c w (.rptr cs) (.pointer (some a))
 | nils {c:Ctx} {w:World}:Rel c w .nils (.slice none 0 0)
 | empt {c:Ctx} {w:World} (a:Addr):Rel c w .empt (.slice (some a) 0 0)
 | slc {c:Ctx} {w:World} {k i len sz cap:Nat} {B:Blk} {a:Addr} (h:c.f k=some B) (hsz:B.sz=sz) (hlen:len≤cap) (hcap:0<cap→a=⟨B.b,B.s+i * sz,none⟩∧(i+cap) * sz≤B.n) :
  Rel c w (.slc k i len sz) (.slice (some a) len cap)
 | rsl {c:Ctx} {w:World} {sz:Nat} {es:List (List AV)} {cap:Nat} {a:Addr} (vs:Nat→Nat→Value) (hlen:es.length≤cap) (hi:0<es.length→c.imm a.block) (hl:∀(i:Nat) e,es[i]? = some e→e.length=sz)
  (hc:∀(i j:Nat),i<es.length→j<sz→w.cell? (a.add (i * sz+j))=some (vs i j)) (hr:∀(i j:Nat) e x,es[i]? = some e→e[j]? = some x→Rel c.bare w x (vs i j)) :
  Rel c w (.rsl sz es) (.slice (some a) es.length cap)
 | rnil {c:Ctx} {w:World} (sz:Nat):Rel c w (.rsl sz []) (.slice none 0 0)
 | emptn {c:Ctx} {w:World}:Rel c w .empt (.slice none 0 0)
 | nilm {c:Ctx} {w:World}:Rel c w .nilm (.map none)
 | mapp {c:Ctx} {w:World} {k:Nat} {B:Blk} (h:c.f k=some B):Rel c w (.mapp k) (.func (.yield B.b) #[] #[])
 | mpo {c:Ctx} {w:World} {k:Nat} {B:Blk} (h:c.f k=some B):Rel c w (.mpo k) (.map (some B.b))
 | rmp {c:Ctx} {w:World} {es:List (Int×AV)} {r clock:Nat} {mes:Array MapEntry} (f:Int→MapEntry) (hi:c.imm r) (hm:w.heap[r]? = some (.map mes clock)) (hb:MapOK mes clock) (hs:RisK es)
  (hf:∀k x,(k,x)∈es→f k∈mes.toList∧(f k).key = .int .i64 k) (he:∀e∈mes.toList,∃k x,(k,x)∈es∧e=f k) (hr:∀k x,(k,x)∈es→Rel c.bare w x (f k).val):Rel c w (.rmp es) (.map (some r))
 | fn {c:Ctx} {w:World} (f:Fn) {xs ys:List AV} {vs us:List Value} (h1:xs.length=vs.length) (h2:ys.length=us.length)
  (hr1:∀(i:Nat) x v,xs[i]? = some x→vs[i]? = some v→Rel c w x v) (hr2:∀(i:Nat) x v,ys[i]? = some x→us[i]? = some v→Rel c w x v):Rel c w (.fn f xs ys) (.func f vs.toArray us.toArray)
 | nilf {c:Ctx} {w:World}:Rel c w .nilf .nilFunc
 | ifc {c:Ctx} {w:World} (t:TypeId) {x:AV} {v:Value} (h:Rel c w x v):Rel c w (.ifc t x) (.iface t v)
 | nili {c:Ctx} {w:World}:Rel c w .nili .nilIface
 | agg {c:Ctx} {w:World} {cs:List AV} {vs:List Value} (hl:cs.length=vs.length) (hr:∀(i:Nat) x v,cs[i]? = some x→vs[i]? = some v→Rel c w x v):Rel c w (.agg cs) (.agg vs.toArray)
 | tup {c:Ctx} {w:World} {cs:List AV} {vs:List Value} (hl:cs.length=vs.length) (hr:∀(i:Nat) x v,cs[i]? = some x→vs[i]? = some v→Rel c w x v):Rel c w (.tup cs) (.tuple vs.toArray)
def RelL (c:Ctx)(w:World)(xs:List AV)(vs:List Value):Prop:=xs.length=vs.length∧∀(i:Nat) x v,xs[i]? = some x→vs[i]? = some v→Rel c w x v
section
variable {c c':Ctx} {w w':World}
theorem zf6 {w w':World}{a:Addr}(h:w'.heap[a.block]? = w.heap[a.block]?):w'.cell? a=w.cell? a:=by
 unfold World.cell?;rw[h]
theorem zet (a:Addr)(n:Nat):(a.add n).block=a.block:=by unfold Addr.add;split<;>rfl
theorem Rel.mono {x:AV}{v:Value}(h:Rel c w x v)(hle:c.le c')(hw:∀b,c.imm b→w'.heap[b]? = w.heap[b]?):Rel c' w' x v:=by
 induction h generalizing c' with
 | any v=>exact .any v
 | bool b=>exact .bool b
 | int k n=>exact .int k n
 | str l=>exact .str l
 | nilp=>exact .nilp
 | ptr h=>exact .ptr (hle.f _ _ h)
 | rptr hi hl hc hr ih=>exact .rptr (hle.imm _ hi) hl (fun i v e=>(zf6 (by rw[zet];exact hw _ hi)).trans (hc i v e)) (fun i x v e e'=>ih i x v e e' hle.bare hw)
 | nils=>exact .nils
 | empt a=>exact .empt a
 | slc h hsz hlen hcap=>exact .slc (hle.f _ _ h) hsz hlen hcap
 | rsl vs hlen hi hl hc hr ih=>exact .rsl vs hlen (fun h=>hle.imm _ (hi h)) hl (fun i j h1 h2=>(zf6 (by rw[zet];exact hw _ (hi (by omega)))).trans (hc i j h1 h2)) (fun i j e x h1 h2=>ih i j e x h1 h2 hle.bare hw)
 | rnil sz=>exact .rnil sz
 | emptn=>exact .emptn
 | nilm=>exact .nilm
 | mapp h=>exact .mapp (hle.f _ _ h)
 | mpo h=>exact .mpo (hle.f _ _ h)
 | rmp f hi hm hb hs hf he hr ih=>exact .rmp f (hle.imm _ hi) ((hw _ hi).trans hm) hb hs hf he (fun k x e=>ih k x e hle.bare hw)
 | fn f h1 h2 hr1 hr2 ih1 ih2=>exact .fn f h1 h2 (fun i x v e e'=>ih1 i x v e e' hle hw) (fun i x v e e'=>ih2 i x v e e' hle hw)
 | nilf=>exact .nilf
 | ifc t h ih=>exact .ifc t (ih hle hw)
 | nili=>exact .nili
 | agg hl hr ih=>exact .agg hl (fun i x v e e'=>ih i x v e e' hle hw)
 | tup hl hr ih=>exact .tup hl (fun i x v e e'=>ih i x v e e' hle hw)
theorem RelL.mono {xs:List AV}{vs:List Value}(h:RelL c w xs vs)(hle:c.le c')(hw:∀b,c.imm b→w'.heap[b]? = w.heap[b]?):RelL c' w' xs vs:=
 ⟨h.1,fun i x v e e'=>(h.2 i x v e e').mono hle hw⟩
theorem Rel.of_bare {x:AV}{v:Value}(h:Rel c.bare w x v):Rel c w x v:=h.mono c.bare_le (fun _ _=>rfl)
theorem RelL.of_bare {x:List AV}{v:List Value}(h:RelL c.bare w x v):RelL c w x v:=h.mono c.bare_le (fun _ _=>rfl)
theorem RelL.nil:RelL c w [] []:=⟨rfl,fun i x v e=>by simp at e⟩
theorem RelL.cons {x:AV}{v:Value}{xs:List AV}{vs:List Value}(h:Rel c w x v)(hs:RelL c w xs vs):RelL c w (x::xs) (v::vs):=
 ⟨by simp[hs.1],fun i y u e e'=>by
  cases i with
  | zero=>simp at e e';subst e;subst e';exact h
  | succ i=>exact hs.2 i y u (by simpa using e) (by simpa using e')⟩
theorem RelL.inv_cons {x:AV}{xs:List AV}{vs:List Value}(h:RelL c w (x::xs) vs):∃v us,vs=v::us∧Rel c w x v∧RelL c w xs us:=by
 cases vs with
 | nil=>have:=h.1;simp at this
 | cons v us=>exact⟨v,us,rfl,h.2 0 x v rfl rfl,by have:=h.1;simpa using this,fun i y u e e'=>h.2 (i+1) y u (by simpa using e) (by simpa using e')⟩
theorem RelL.inv_nil {vs:List Value}(h:RelL c w [] vs):vs=[]:=by
 have:=h.1;exact List.eq_nil_of_length_eq_zero (by simpa using this.symm)
theorem RelL.append {xs ys:List AV}{vs us:List Value}(h:RelL c w xs vs)(h':RelL c w ys us):RelL c w (xs++ys) (vs++us):=
 ⟨by simp[h.1,h'.1],fun i x v e e'=>by
  by_cases hi:i<xs.length
  · rw [List.getElem?_append_left hi] at e
    rw[List.getElem?_append_left (by rw[← h.1];exact hi)] at e'
    exact h.2 i x v e e'
  · rw [List.getElem?_append_right (by omega)] at e
    rw[List.getElem?_append_right (by rw[← h.1];omega),← h.1] at e'
    exact h'.2 _ x v e e'⟩
theorem RelL.drop {xs:List AV}{vs:List Value}(h:RelL c w xs vs)(n:Nat):RelL c w (xs.drop n) (vs.drop n):=
 ⟨by simp[h.1],fun i x v e e'=>h.2 (n+i) x v (by simpa[List.getElem?_drop] using e) (by simpa[List.getElem?_drop] using e')⟩
theorem RelL.take {xs:List AV}{vs:List Value}(h:RelL c w xs vs)(n:Nat):RelL c w (xs.take n) (vs.take n):=
 ⟨by simp[h.1],fun i x v e e'=>by
  rw[List.getElem?_take] at e e'
  by_cases hi:i<n
  · simp only[hi,if_true] at e e';exact h.2 i x v e e'
  · simp[hi] at e⟩
theorem RelL.get {xs:List AV}{vs:List Value}(h:RelL c w xs vs){i:Nat}{x:AV}(e:xs[i]? = some x):∃v,vs[i]? = some v∧Rel c w x v:=by
 have hi:i<xs.length:=(List.getElem?_eq_some_iff.1 e).1;have hi':i<vs.length:=by rw[← h.1];exact hi
 exact⟨vs[i],List.getElem?_eq_getElem hi',h.2 i x _ e (List.getElem?_eq_getElem hi')⟩
theorem Rel.cells {x:AV}{v:Value}(h:Rel c w x v)(hx:x.one=true∨∃cs,x = .agg cs):RelL c w x.cells v.cells.toList:=by
 rcases hx with hx|⟨cs,rfl⟩
 · have h1 : x.cells = [x] := by cases x <;> simp_all [AV.one, AV.cells]
   have h2:v.cells=#[v]:=by cases h<;>simp_all[AV.one,Value.cells]
   rw[h1,h2];exact .cons h .nil
 · cases h with
   | agg hl hr=>exact⟨by simpa[AV.cells,Value.cells] using hl,fun i x v e e'=>hr i x v (by simpa[AV.cells] using e) (by simpa[Value.cells] using e')⟩
theorem Rel.one_value {x:AV}{v:Value}(h:Rel c w x v)(hx:x.one=true):(∀cs,v≠.agg cs)∧(∀cs,v≠.tuple cs):=by
 cases h<;>simp_all[AV.one]
end
end Go.Ago
end
section
namespace Go.Ago
def EntR (R:AV→Value→Prop)(es:List (Int×AV))(mes:List MapEntry):Prop:=
 ∃f:Int→MapEntry,(∀k x,(k,x)∈es→f k∈mes∧(f k).key = .int .i64 k)∧(∀e∈mes,∃k x,(k,x)∈es∧e=f k)∧∀k x,(k,x)∈es→R x (f k).val
theorem EntR.mono {R R':AV→Value→Prop}{es:List (Int×AV)}{mes:List MapEntry}(hr:∀x v,R x v→R' x v)(h:EntR R es mes):EntR R' es mes:=by
 obtain⟨f,h1,h2,h3⟩:=h;exact⟨f,h1,h2,fun k x e=>hr _ _ (h3 k x e)⟩
def ObjRel (c:Ctx)(w:World)(B:Blk):AObj→Prop
 | .arr sz es=>∃arr t,w.heap[B.b]? = some (.cells arr t (0,0))∧B.s+B.n≤arr.size∧B.sz=sz∧es.length * sz≤B.n ∧
  ∀(i:Nat) e,es[i]? = some e→e.length=sz∧∀(j:Nat) x,e[j]? = some x→∃v,arr[B.s+(i * sz+j)]? = some v∧Rel c w x v
 | .sit s pos=>w.heap[B.b]? = some (.stringIter ⟨s.toArray⟩ pos)∧B.s=0∧B.sz=0
 | .lp st pend sl nsl code=>∃r g,w.heap[B.b]? = some (.loop r)∧r.state=st∧r.pending=pend∧r.tmps.size=nsl∧code = .rangeFunc g r.params r.assign r.body∧∀t x,(t,x)∈sl→∃v,r.tmps[t]? = some v∧Rel c w x v
 | .mp es=>(B.s=0∧B.sz=0)∧∃mes clock,w.heap[B.b]? = some (.map mes clock)∧MapOK mes clock∧RisK es∧EntR (Rel c w) es mes.toList
 | .mit cur es=>(B.s=0∧B.sz=0)∧∃r mes clock seen,w.heap[B.b]? = some (.mapIter (some r) clock seen clock)∧c.imm r∧w.heap[r]? = some (.map mes clock)∧MapOK mes clock∧RisK es∧EntR (Rel c.bare w) es (mes.toList.filter fun e=>!seen.contains e.born) ∧
  ∀k x,cur=some (k,x)→∃(seen0:Array Nat) (e:MapEntry),seen=seen0.push e.born∧e∈mes.toList∧e.key = .int .i64 k∧Rel c.bare w x e.val
theorem ObjRel.mono {c c':Ctx}{w w':World}{B:Blk}{o:AObj}(h:ObjRel c w B o)(hb:w'.heap[B.b]? = w.heap[B.b]?)(hr:∀{x v},Rel c w x v→Rel c' w' x v)(hc:∀b,c.imm b→c'.imm b∧w'.heap[b]? = w.heap[b]?):ObjRel c' w' B o:=by
 cases o with
 | arr sz es =>
   obtain⟨arr,t,a1,a2,a3,a4,a5⟩:=h;exact⟨arr,t,hb.trans a1,a2,a3,a4,fun i e he=>⟨(a5 i e he).1,fun j x hx=>by obtain⟨v,e1,e2⟩:=(a5 i e he).2 j x hx;exact⟨v,e1,hr e2⟩⟩⟩
 | sit s pos=>exact⟨hb.trans h.1,h.2⟩
 | lp st pend sl nsl code =>
   obtain⟨r,g,a1,a2,a3,a4,a5,a6⟩:=h;exact⟨r,g,hb.trans a1,a2,a3,a4,a5,fun t x hm=>by obtain⟨v,e1,e2⟩:=a6 t x hm;exact⟨v,e1,hr e2⟩⟩
 | mp es =>
   obtain⟨a0,mes,clock,a1,a2,a3,a4⟩:=h;exact⟨a0,mes,clock,hb.trans a1,a2,a3,a4.mono fun _ _ h=>hr h⟩
 | mit cur es =>
   obtain⟨a0,r,mes,clock,seen,a1,a2,a3,a4,a5,a6,a7⟩:=h;have hbare:∀x v,Rel c.bare w x v→Rel c'.bare w' x v:=fun _ _ h=>h.mono ⟨fun _ _ h=>(by cases h),fun b hb=>(hc b hb).1⟩ fun b hb=>(hc b hb).2
   exact⟨a0,r,mes,clock,seen,hb.trans a1,(hc r a2).1,(hc r a2).2.trans a3,a4,a5,a6.mono hbare,fun k x hk=>by
    obtain⟨seen0,e,e1,e2,e3,e4⟩:=a7 k x hk;exact⟨seen0,e,e1,e2,e3,hbare _ _ e4⟩⟩
def Own (c:Ctx)(H:zah)(b:Nat):Prop:=∃k o B,H.get k=some o∧c.f k=some B∧B.b=b
abbrev zd9:=Nat→Option (List AV)
structure WRel (G:zd9)(c:Ctx)(w:World)(H:zah):Prop where
 imm_lt:∀b,c.imm b→b<w.heap.size
 f_lt:∀k B,c.f k=some B→B.b<w.heap.size
 obj:∀k o,H.get k=some o→∃B,c.f k=some B∧¬c.imm B.b∧ObjRel c w B o
 inj:∀k k' o o' B B',H.get k=some o→H.get k'=some o'→c.f k=some B→c.f k'=some B'→B.b=B'.b→k=k'
 glob:∀g cs,G g=some cs→Rel c w (.rptr cs) (.pointer (some ⟨g,0,none⟩))
structure Ext (c:Ctx)(w:World)(H:zah)(c':Ctx)(w':World)(H':zah):Prop where
 le:c.le c'
 os:w'.os=w.os
 tape:w'.tape=w.tape
 output:w'.output=w.output
 size:w.heap.size≤w'.heap.size
 other:∀b,b<w.heap.size→¬Own c H b→w'.heap[b]? = w.heap[b]?
 newimm:∀b,c'.imm b→c.imm b∨Own c H b∨w.heap.size≤b
 own:∀b,Own c' H' b→Own c H b∨w.heap.size≤b
section
variable {G:zd9} {c c' c'':Ctx} {w w' w'':World} {H H' H'':zah}
theorem Ext.refl (c:Ctx)(w:World)(H:zah):Ext c w H c w H:=
 ⟨.refl c,rfl,rfl,rfl,Nat.le_refl _,fun _ _ _=>rfl,fun _ h => .inl h,fun _ h => .inl h⟩
theorem Ext.trans (h:Ext c w H c' w' H')(h':Ext c' w' H' c'' w'' H''):Ext c w H c'' w'' H'' :={
 le:=h.le.trans h'.le
 os:=h'.os.trans h.os
 tape:=h'.tape.trans h.tape
 output:=h'.output.trans h.output
 size:=Nat.le_trans h.size h'.size
 other b hb hn := (h'.other b (Nat.lt_of_lt_of_le hb h.size) (fun ho=>by
  rcases h.own b ho with h1|h1
  · exact hn h1
  · omega)).trans (h.other b hb hn)
 newimm b hb:=by
  rcases h'.newimm b hb with h1|h1|h1
  · exact h.newimm b h1
  · rcases h.own b h1 with h2 | h2
    · exact .inr (.inl h2)
    · exact .inr (.inr h2)
  · exact .inr (.inr (Nat.le_trans h.size h1))
 own b hb:=by
  rcases h'.own b hb with h1|h1
  · exact h.own b h1
  · exact .inr (Nat.le_trans h.size h1) }
theorem WRel.not_own (h:WRel G c w H){b:Nat}(hb:c.imm b):¬Own c H b:=by
 rintro⟨k,o,B,hk,hf,rfl⟩
 obtain⟨B',hf',hi,_⟩:=h.obj k o hk;rw[hf] at hf';cases hf';exact hi hb
theorem Ext.imm (h:Ext c w H c' w' H')(hw:WRel G c w H):∀b,c.imm b→w'.heap[b]? = w.heap[b]?:=
 fun b hb=>h.other b (hw.imm_lt b hb) (hw.not_own hb)
theorem Ext.rel (h:Ext c w H c' w' H')(hw:WRel G c w H){x:AV}{v:Value}(hr:Rel c w x v):Rel c' w' x v:=hr.mono h.le (h.imm hw)
theorem Ext.drew (h:Ext c w H c' w' H'):Ext c w H c' w'.drew H':=⟨h.le,h.os,h.tape,h.output,h.size,h.other,h.newimm,h.own⟩
theorem Rel.drew {x:AV}{v:Value}(h:Rel c w x v):Rel c w.drew x v:=h.mono (.refl c) (fun _ _=>rfl)
theorem WRel.drew (h:WRel G c w H):WRel G c w.drew H:=
 ⟨h.imm_lt,h.f_lt,fun k o e=>by
  obtain⟨B,h1,h2,h3⟩:=h.obj k o e;exact⟨B,h1,h2,h3.mono rfl (fun hr=>hr.drew) (fun _ hb=>⟨hb,rfl⟩)⟩,
  h.inj,fun g cs e=>(h.glob g cs e).drew⟩
theorem Ext.refl_drew (c:Ctx)(w:World)(H:zah):Ext c w H c w.drew H:=(Ext.refl c w H).drew
theorem WRel.congr (h:WRel G c w H)(he:∀j,H'.get j=H.get j):WRel G c w H':=
 ⟨h.imm_lt,h.f_lt,fun k o e=>h.obj k o (by rw[← he];exact e),fun k k' o o' B B' e e'=>h.inj k k' o o' B B' (by rw[← he];exact e) (by rw[← he];exact e'),h.glob⟩
theorem Own.congr (he:∀j,H'.get j=H.get j){b:Nat}(h:Own c H b):Own c H' b:=by
 obtain⟨k,o,B,h1,h2,h3⟩:=h;exact⟨k,o,B,by rw[he];exact h1,h2,h3⟩
theorem Ext.congr {K K':zah}(h:Ext c w H c' w' H')(he:∀j,K.get j=H.get j)(he':∀j,K'.get j=H'.get j):Ext c w K c' w' K':=
 ⟨h.le,h.os,h.tape,h.output,h.size,fun b hb hn=>h.other b hb (fun ho=>hn (ho.congr he)),fun b hb=>(h.newimm b hb).ip id (fun e=>e.ip (Own.congr he) id),fun b hb=>(h.own b (Own.congr (fun j=>(he' j).symm) hb)).ip (Own.congr he) id⟩
theorem WRel.cell (h:WRel G c w H){k sz:Nat}{es:List (List AV)}{B:Blk}(hk:H.get k=some (.arr sz es))(hf:c.f k=some B){i j:Nat}{e:List AV}{x:AV}(he:es[i]? = some e)(hx:e[j]? = some x) :
 ∃v,w.cell? ⟨B.b,B.s+(i * sz+j),none⟩=some v∧w.frozen? ⟨B.b,B.s+(i * sz+j),none⟩=false∧Rel c w x v:=by
 obtain⟨B',hf',hi,arr,t,hb,hs,hsz,hl,hc⟩:=h.obj k _ hk;rw[hf] at hf';cases hf';obtain⟨v,hv,hr⟩:=(hc i e he).2 j x hx;exact⟨v,by simp[World.cell?,hb,hv],by simp[World.frozen?,hb],hr⟩
theorem WRel.sz (h:WRel G c w H){k sz:Nat}{es:List (List AV)}{B:Blk}(hk:H.get k=some (.arr sz es))(hf:c.f k=some B) :
 B.sz=sz∧es.length * sz≤B.n∧∀(i:Nat) e,es[i]? = some e→e.length=sz:=by
 obtain⟨B',hf',hi,arr,t,hb,hs,hsz,hl,hc⟩:=h.obj k _ hk;rw[hf] at hf';cases hf';exact⟨hsz,hl,fun i e he=>(hc i e he).1⟩
theorem zcm (b o n:Nat):(⟨b,o,none⟩:Addr).add n=⟨b,o+n,none⟩:=by
 unfold Addr.add
 by_cases h:n=0<;>simp[h]
theorem zhu (a:Addr)(i j:Nat):(a.add i).add j=a.add (i+j):=by
 unfold Addr.add
 by_cases hi:i=0<;>by_cases hj:j=0<;>simp[hi,hj,Nat.add_assoc]
theorem zz2 {c:Ctx}{w:World}:∀{cs:List AV} (f:Nat→Value),(∀(i:Nat) x,cs[i]? = some x→Rel c w x (f i))→RelL c w cs ((List.range cs.length).map f)
 | cs, f, h => ⟨by simp, fun i x v e e' => by
   have hi:i<cs.length:=(List.getElem?_eq_some_iff.1 e).1;simp[hi] at e';subst e';exact h i x e⟩
theorem WRel.loadCells (h:WRel G c w H)(P:Program){k sz:Nat}{es:List (List AV)}{B:Blk}(hk:H.get k=some (.arr sz es))(hf:c.f k=some B){i:Nat}{e:List AV}(he:es[i]? = some e)
 (off n:Nat)(hn:off+n≤e.length) :
 ∃vs:List Value,(Go.loadCells ⟨B.b,B.s+(i * sz+off),none⟩ n).run P w = .ok vs.toArray w∧RelL c w ((e.drop off).take n) vs:=by
 have hl:((e.drop off).take n).length=n:=by simp;omega
 have hex:∀j:Nat,∃v,j<n→w.cell? ((⟨B.b,B.s+(i * sz+off),none⟩:Addr).add j)=some v∧∀x,((e.drop off).take n)[j]? = some x→Rel c w x v:=by
  intro j
  by_cases hj:j<n
  · have hx : e[off + j]? = some e[off + j] := List.getElem?_eq_getElem (by omega)
    obtain⟨v,hc,_,hr⟩:=h.cell hk hf he hx;refine⟨v,fun _=>⟨by rw[zcm,Nat.add_assoc,Nat.add_assoc];exact hc,fun x e'=>?_⟩⟩
    rw[List.getElem?_take,if_pos hj,List.getElem?_drop,hx] at e';cases e';exact hr
  · exact⟨undef,fun h=>absurd h hj⟩
 let f:Nat→Value:=fun i=>(hex i).choose
 have hf':∀j,j<n→w.cell? ((⟨B.b,B.s+(i * sz+off),none⟩:Addr).add j)=some (f j)∧∀x,((e.drop off).take n)[j]? = some x→Rel c w x (f j):=fun i=>(hex i).choose_spec
 refine⟨(List.range n).map f,run_loadCells w _ n f fun j hj=>(hf' j hj).1,?_⟩
 have := zz2 (c := c) (w := w) (cs := (e.drop off).take n) f (fun i x e'=>by
  have hi:i<n:=by have:=(List.getElem?_eq_some_iff.1 e').1;omega
  exact(hf' i hi).2 x e')
 rwa [hl] at this
theorem zpd (P:Program){cs:List AV}{a:Addr}{vs:List Value}(hl:cs.length=vs.length)(hc:∀(i:Nat) v,vs[i]? = some v→w.cell? (a.add i)=some v)
 (hr:∀(i:Nat) x v,cs[i]? = some x→vs[i]? = some v→Rel c w x v)(n:Nat)(hn:n≤cs.length) :
 (Go.loadCells a n).run P w = .ok (vs.take n).toArray w∧RelL c w (cs.take n) (vs.take n):=by
 refine⟨?_,(RelL.take ⟨hl,hr⟩ n)⟩;have h1:(vs.take n).length=n:=by simp;omega
 have := run_loadCells_list (P := P) w a (vs.take n) (fun j v e=>by
  rw[List.getElem?_take] at e
  by_cases hj:j<n
  · simp only[hj,if_true] at e;exact hc j v e
  · simp[hj] at e)
 rwa [h1] at this
def zgl (cs:List AV)(off:Nat)(vs:List AV):List AV:=cs.take off++vs++cs.drop (off+vs.length)
theorem zjp (cs vs:List AV)(off i:Nat)(h:off+vs.length≤cs.length) :
 (zgl cs off vs)[i]? = if i<off then cs[i]? else if i<off+vs.length then vs[i - off]? else cs[i]?:=by
 unfold zgl
 by_cases h1:i<off
 · rw[if_pos h1,List.append_assoc,List.getElem?_append_left (by simp;omega),List.getElem?_take,if_pos h1]
 · rw [if_neg h1]
   have e1:(cs.take off).length=off:=by simp;omega
   by_cases h2:i<off+vs.length
   · rw[if_pos h2,List.append_assoc,List.getElem?_append_right (by omega),e1,List.getElem?_append_left (by omega)]
   · rw [if_neg h2, List.getElem?_append_right (by simp; omega), List.length_append, e1, List.getElem?_drop]
     congr 1;omega
theorem zim (cs vs:List AV)(off:Nat)(h:off+vs.length≤cs.length):(zgl cs off vs).length=cs.length:=by
 unfold zgl;simp;omega
theorem WRel.store (h:WRel G c w H){k sz:Nat}{es es':List (List AV)}{B:Blk}(hk:H.get k=some (.arr sz es))(hf:c.f k=some B)(hk24:k+1<2 ^ 24)
 (off:Nat){vs:List Value}{xs:List AV}(hx:RelL c w xs vs)(hone:∀x∈xs,x.one=true)(hn:off+xs.length≤B.n)
 (hcs':es'.length * sz≤B.n)(hlen:∀(i:Nat) e,es'[i]? = some e→e.length=sz)
 (hget:∀(i j:Nat) e x,es'[i]? = some e→e[j]? = some x→(i * sz+j<off∧∃e0,es[i]? = some e0∧e0[j]? = some x)∨(off≤i * sz+j∧i * sz+j<off+xs.length∧xs[i * sz+j - off]? = some x) ∨
   (off+xs.length≤i * sz+j∧∃e0,es[i]? = some e0∧e0[j]? = some x))(P:Program) :
 ∃w',(storeCells ⟨B.b,B.s+off,none⟩ vs).run P w = .ok () w'∧Ext c w H c w' (H.set 24 k (some (.arr sz es')))∧WRel G c w' (H.set 24 k (some (.arr sz es'))):=by
 obtain⟨B',hf',hi,arr,t,hb,hs,hsz0,hl,hc⟩:=h.obj k _ hk;rw[hf] at hf';cases hf';have hvl:vs.length=xs.length:=hx.1.symm;have h1:∀v∈vs,v.oneCell'=true:=by
  intro v hv;obtain⟨i,hi',rfl⟩:=List.getElem_of_mem hv;have hxi:xs[i]? = some (xs[i]'(by omega)):=List.getElem?_eq_getElem (by omega)
  have hr:=hx.2 i _ _ hxi (List.getElem?_eq_getElem hi');have ho:=hr.one_value (hone _ (List.getElem_mem _));cases hv':vs[i]<;>simp_all[Value.oneCell']
 have hbs:B.b<w.heap.size:=h.f_lt k B hf;have hrun:=run_storeCells_at (P:=P) B.b (B.s+off) t vs 0 arr w hb (by omega) h1
 simp only[Nat.add_zero] at hrun;have hheap:=setRow_heap w B.b arr ((arr.toList.take (B.s+off)++vs++arr.toList.drop (B.s+off+vs.length)).toArray) t (0,0) hb
 generalize hw':w.setRow B.b ((arr.toList.take (B.s+off)++vs++arr.toList.drop (B.s+off+vs.length)).toArray)=w' at hrun hheap
 have hsz:w'.heap.size=w.heap.size:=by subst hw';simp[World.setRow]
 have hoth:∀b,b≠B.b→w'.heap[b]? = w.heap[b]?:=by
  intro b hne;subst hw';simp[World.setRow,Array.getElem?_modify,Ne.symm hne]
 have hos:w'.os=w.os:=by subst hw';rfl
 have htape:w'.tape=w.tape:=by subst hw';rfl
 have hout:w'.output=w.output:=by subst hw';rfl
 have hown:∀b,Own c (H.set 24 k (some (.arr sz es'))) b→Own c H b:=by
  rintro b ⟨k',o,B',hk',hf',rfl⟩
  rw[Tr.get_set 24 k _ H k' hk24] at hk'
  by_cases e:k'=k
  · subst e;exact⟨k',_,B',hk,hf',rfl⟩
  · rw[if_neg e] at hk';exact⟨k',o,B',hk',hf',rfl⟩
 have hext:Ext c w H c w' (H.set 24 k (some (.arr sz es'))):=
  ⟨.refl c,hos,htape,hout,by omega,fun b hb' hno=>hoth b (fun e=>hno ⟨k,_,B,hk,hf,e.symm⟩),fun b hb' => .inl hb',fun b hb' => .inl (hown b hb')⟩
 have hrel:∀{x v},Rel c w x v→Rel c w' x v:=fun hr=>hext.rel h hr
 refine⟨w',hrun,hext,⟨fun b hb'=>by rw[hsz];exact h.imm_lt b hb',fun k' B' e=>by rw[hsz];exact h.f_lt k' B' e,?_,?_,fun g cs e=>hrel (h.glob g cs e)⟩⟩
 · intro k' o hk'
   rw[Tr.get_set 24 k _ H k' hk24] at hk'
   by_cases e:k'=k
   · subst e
     simp only[if_true,Option.some.injEq] at hk';subst hk';refine⟨B,hf,hi,_,t,hheap,by simp;omega,hsz0,hcs',fun i e he=>⟨hlen i e he,fun j x hj=>?_⟩⟩
     have htl:(arr.toList.take (B.s+off)).length=B.s+off:=by simp;omega
     rcases hget i j e x he hj with⟨hlt,e0,he0,hx'⟩|⟨hge,hlt,hx'⟩|⟨hge,e0,he0,hx'⟩
     · obtain ⟨v, hv, hr⟩ := (hc i e0 he0).2 j x hx'
       refine⟨v,?_,hrel hr⟩;rw[List.getElem?_toArray,List.append_assoc,List.getElem?_append_left (by omega),List.getElem?_take,if_pos (by omega)]
       simpa using hv
     · obtain ⟨v, hv, hr⟩ := hx.get hx'
       refine⟨v,?_,hrel hr⟩;rw[List.getElem?_toArray,List.append_assoc,List.getElem?_append_right (by omega),htl,List.getElem?_append_left (by omega)]
       rw[← hv];congr 1;omega
     · obtain ⟨v, hv, hr⟩ := (hc i e0 he0).2 j x hx'
       refine⟨v,?_,hrel hr⟩;rw[List.getElem?_toArray,List.getElem?_append_right (by simp;omega),List.length_append,htl,List.getElem?_drop,hvl]
       rw[show B.s+off+xs.length+(B.s+(i * sz+j) - (B.s+off+xs.length))=B.s+(i * sz+j) by omega]
       simpa using hv
   · rw [if_neg e] at hk'
     obtain⟨B',hf',hi',ho'⟩:=h.obj k' o hk';refine⟨B',hf',hi',?_⟩;have hne:B'.b≠B.b:=fun e'=>e (h.inj k' k o _ B' B hk' hk hf' hf e')
     exact ho'.mono (hoth _ hne) hrel (fun b hb=>⟨hext.le.imm b hb,hext.imm h b hb⟩)
 · intro k1 k2 o1 o2 B1 B2 g1 g2 f1 f2 eb
   rw[Tr.get_set 24 k _ H _ hk24] at g1 g2;have g1':∃o,H.get k1=some o:=by
    by_cases e:k1=k
    · exact⟨_,e ▸ hk⟩
    · rw[if_neg e] at g1;exact⟨_,g1⟩
   have g2':∃o,H.get k2=some o:=by
    by_cases e:k2=k
    · exact⟨_,e ▸ hk⟩
    · rw[if_neg e] at g2;exact⟨_,g2⟩
   obtain⟨_,g1'⟩:=g1';obtain⟨_,g2'⟩:=g2';exact h.inj k1 k2 _ _ B1 B2 g1' g2' f1 f2 eb
def Ctx.bind (c:Ctx)(k:Nat)(B:Blk):Ctx:=⟨fun j=>if j=k then some B else c.f j,c.imm⟩
theorem Ctx.le_bind {k:Nat}{B:Blk}(h:c.f k=none):c.le (c.bind k B):=
 ⟨fun j p e=>by
  unfold Ctx.bind
  by_cases hj:j=k
  · subst hj;rw[h] at e;cases e
  · simp[hj,e],fun _ e=>e⟩
theorem WRel.alloc (h:WRel G c w H){k:Nat}(hk:c.f k=none)(hk24:k+1<2 ^ 24)(t:TypeId){arr:Array Value}{sz:Nat}{es:List (List AV)}{n:Nat}(hn:n≤arr.size)(hl:es.length * sz≤n)
 (hr:∀(i:Nat) e,es[i]? = some e→e.length=sz∧∀(j:Nat) x,e[j]? = some x→∃v,arr[i * sz+j]? = some v∧Rel c w x v) :
 Ext c w H (c.bind k ⟨w.heap.size,0,n,sz⟩) (w.alloc (.cells arr t)) (H.set 24 k (some (.arr sz es)))∧WRel G (c.bind k ⟨w.heap.size,0,n,sz⟩) (w.alloc (.cells arr t)) (H.set 24 k (some (.arr sz es))):=by
 have hsz:(w.alloc (.cells arr t)).heap.size=w.heap.size+1:=World.size_alloc w _;have hold:∀b,b<w.heap.size→(w.alloc (.cells arr t)).heap[b]? = w.heap[b]?:=fun b hb=>Go.RowKit.Below.heap_alloc w _ b hb
 have hle:c.le (c.bind k ⟨w.heap.size,0,n,sz⟩):=Ctx.le_bind hk;have hkn:H.get k=none:=by
  cases e:H.get k with
  | none=>rfl
  | some o =>
    obtain⟨B,hB,_⟩:=h.obj k o e;rw[hk] at hB;cases hB
 have hbk:(c.bind k ⟨w.heap.size,0,n,sz⟩).f k=some ⟨w.heap.size,0,n,sz⟩:=by simp[Ctx.bind]
 have hbo:∀j,j≠k→(c.bind k ⟨w.heap.size,0,n,sz⟩).f j=c.f j:=fun j hj=>by simp[Ctx.bind,hj]
 have hext:Ext c w H (c.bind k ⟨w.heap.size,0,n,sz⟩) (w.alloc (.cells arr t)) (H.set 24 k (some (.arr sz es))):=by
  refine⟨hle,rfl,rfl,rfl,by omega,fun b hb _=>hold b hb,fun b hb => .inl hb,?_⟩
  rintro b ⟨k',o,B',hk',hf',rfl⟩
  rw[Tr.get_set 24 k _ H k' hk24] at hk'
  by_cases e:k'=k
  · subst e;rw[hbk] at hf';cases hf';exact .inr (Nat.le_refl _)
  · rw[if_neg e] at hk';rw[hbo k' e] at hf';exact .inl ⟨k',o,B',hk',hf',rfl⟩
 have hrel:∀{x v},Rel c w x v→Rel (c.bind k ⟨w.heap.size,0,n,sz⟩) (w.alloc (.cells arr t)) x v:=fun hr=>hext.rel h hr
 refine⟨hext,⟨fun b hb=>by have:=h.imm_lt b hb;omega,?_,?_,?_,fun g cs e=>hrel (h.glob g cs e)⟩⟩
 · intro j B e
   by_cases hj:j=k
   · subst hj;rw[hbk] at e;cases e;show w.heap.size<_;omega
   · rw[hbo j hj] at e;have:=h.f_lt j B e;omega
 · intro k' o hk'
   rw[Tr.get_set 24 k _ H k' hk24] at hk'
   by_cases e:k'=k
   · subst e
     simp only[if_true,Option.some.injEq] at hk';subst hk';refine⟨_,hbk,fun hi=>Nat.lt_irrefl _ (h.imm_lt _ hi),arr,t,heap_alloc_new w _,by simp;omega,rfl,hl,fun i e he=>⟨(hr i e he).1,fun j x hj=>?_⟩⟩
     obtain⟨v,h1,h2⟩:=(hr i e he).2 j x hj;exact⟨v,by simpa using h1,hrel h2⟩
   · rw [if_neg e] at hk'
     obtain⟨B',hf',hi',ho'⟩:=h.obj k' o hk';refine⟨B',by rw[hbo k' e];exact hf',hi',?_⟩
     exact ho'.mono (hold _ (h.f_lt _ _ hf')) hrel (fun b hb=>⟨hext.le.imm b hb,hext.imm h b hb⟩)
 · intro k1 k2 o1 o2 B1 B2 g1 g2 f1 f2 eb
   rw[Tr.get_set 24 k _ H _ hk24] at g1 g2
   by_cases e1:k1=k<;>by_cases e2:k2=k
   · rw[e1,e2]
   · subst e1;rw[hbk] at f1;cases f1;rw[hbo k2 e2] at f2;have:=h.f_lt _ _ f2;simp at eb;omega
   · subst e2;rw[hbk] at f2;cases f2;rw[hbo k1 e1] at f1;have:=h.f_lt _ _ f1;simp at eb;omega
   · rw [if_neg e1] at g1; rw [if_neg e2] at g2; rw [hbo k1 e1] at f1; rw [hbo k2 e2] at f2
     exact h.inj k1 k2 _ _ B1 B2 g1 g2 f1 f2 eb
theorem WRel.allocO (h:WRel G c w H){k:Nat}(hk:c.f k=none)(hk24:k+1<2 ^ 24)(ob:Obj)(o:AObj){sz n:Nat}(ho:∀(c':Ctx) (w':World),w'.heap[w.heap.size]? = some ob→(∀{x v},Rel c w x v→Rel c' w' x v)→(∀b,c.imm b→c'.imm b∧w'.heap[b]? = w.heap[b]?)→ObjRel c' w' ⟨w.heap.size,0,n,sz⟩ o) :
 Ext c w H (c.bind k ⟨w.heap.size,0,n,sz⟩) (w.alloc ob) (H.set 24 k (some o))∧WRel G (c.bind k ⟨w.heap.size,0,n,sz⟩) (w.alloc ob) (H.set 24 k (some o)):=by
 have hsz:(w.alloc ob).heap.size=w.heap.size+1:=World.size_alloc w _;have hold:∀b,b<w.heap.size→(w.alloc ob).heap[b]? = w.heap[b]?:=fun b hb=>Go.RowKit.Below.heap_alloc w _ b hb
 have hle:c.le (c.bind k ⟨w.heap.size,0,n,sz⟩):=Ctx.le_bind hk;have hbk:(c.bind k ⟨w.heap.size,0,n,sz⟩).f k=some ⟨w.heap.size,0,n,sz⟩:=by simp[Ctx.bind]
 have hbo:∀j,j≠k→(c.bind k ⟨w.heap.size,0,n,sz⟩).f j=c.f j:=fun j hj=>by simp[Ctx.bind,hj]
 have hext:Ext c w H (c.bind k ⟨w.heap.size,0,n,sz⟩) (w.alloc ob) (H.set 24 k (some o)):=by
  refine⟨hle,rfl,rfl,rfl,by omega,fun b hb _=>hold b hb,fun b hb => .inl hb,?_⟩
  rintro b ⟨k',o',B',hk',hf',rfl⟩
  rw[Tr.get_set 24 k _ H k' hk24] at hk'
  by_cases e:k'=k
  · subst e;rw[hbk] at hf';cases hf';exact .inr (Nat.le_refl _)
  · rw[if_neg e] at hk';rw[hbo k' e] at hf';exact .inl ⟨k',o',B',hk',hf',rfl⟩
 have hrel:∀{x v},Rel c w x v→Rel (c.bind k ⟨w.heap.size,0,n,sz⟩) (w.alloc ob) x v:=fun hr=>hext.rel h hr
 refine⟨hext,⟨fun b hb=>by have:=h.imm_lt b hb;omega,?_,?_,?_,fun g cs e=>hrel (h.glob g cs e)⟩⟩
 · intro j B e
   by_cases hj:j=k
   · subst hj;rw[hbk] at e;cases e;show w.heap.size<_;omega
   · rw[hbo j hj] at e;have:=h.f_lt j B e;omega
 · intro k' o' hk'
   rw[Tr.get_set 24 k _ H k' hk24] at hk'
   by_cases e:k'=k
   · subst e
     simp only[if_true,Option.some.injEq] at hk';subst hk';exact⟨_,hbk,fun hi=>Nat.lt_irrefl _ (h.imm_lt _ hi),ho _ _ (heap_alloc_new w _) hrel (fun b hb=>⟨hext.le.imm b hb,hext.imm h b hb⟩)⟩
   · rw [if_neg e] at hk'
     obtain⟨B',hf',hi',ho'⟩:=h.obj k' o' hk';refine⟨B',by rw[hbo k' e];exact hf',hi',?_⟩
     exact ho'.mono (hold _ (h.f_lt _ _ hf')) hrel (fun b hb=>⟨hext.le.imm b hb,hext.imm h b hb⟩)
 · intro k1 k2 o1 o2 B1 B2 g1 g2 f1 f2 eb
   rw[Tr.get_set 24 k _ H _ hk24] at g1 g2
   by_cases e1:k1=k<;>by_cases e2:k2=k
   · rw[e1,e2]
   · subst e1;rw[hbk] at f1;cases f1;rw[hbo k2 e2] at f2;have:=h.f_lt _ _ f2;simp at eb;omega
   · subst e2;rw[hbk] at f2;cases f2;rw[hbo k1 e1] at f1;have:=h.f_lt _ _ f1;simp at eb;omega
   · rw [if_neg e1] at g1; rw [if_neg e2] at g2; rw [hbo k1 e1] at f1; rw [hbo k2 e2] at f2
     exact h.inj k1 k2 _ _ B1 B2 g1 g2 f1 f2 eb
theorem WRel.setO (h:WRel G c w H){k:Nat}{o0:AObj}{B:Blk}(hk:H.get k=some o0)(hf:c.f k=some B)(hk24:k+1<2 ^ 24)(ob:Obj)(o:AObj)
 (ho:∀w':World,w'.heap[B.b]? = some ob→(∀{x v},Rel c w x v→Rel c w' x v)→(∀b,c.imm b→w'.heap[b]? = w.heap[b]?)→ObjRel c w' B o) :
 Ext c w H c { w with heap:=w.heap.setIfInBounds B.b ob } (H.set 24 k (some o))∧WRel G c { w with heap:=w.heap.setIfInBounds B.b ob } (H.set 24 k (some o)):=by
 have hbs:B.b<w.heap.size:=h.f_lt k B hf;have hi:¬c.imm B.b:=by
  obtain⟨B',h1,h2,_⟩:=h.obj k o0 hk;rw[hf] at h1;cases h1;exact h2
 generalize hw':({ w with heap:=w.heap.setIfInBounds B.b ob }:World)=w'
 have hsz:w'.heap.size=w.heap.size:=by subst hw';simp
 have hnew:w'.heap[B.b]? = some ob:=by subst hw';simp[hbs]
 have hoth:∀b,b≠B.b→w'.heap[b]? = w.heap[b]?:=by
  intro b hne;subst hw';simp[Array.getElem?_setIfInBounds,Ne.symm hne]
 have hown:∀b,Own c (H.set 24 k (some o)) b→Own c H b:=by
  rintro b ⟨k',o',B',hk',hf',rfl⟩
  rw[Tr.get_set 24 k _ H k' hk24] at hk'
  by_cases e:k'=k
  · subst e;exact⟨k',_,B',hk,hf',rfl⟩
  · rw[if_neg e] at hk';exact⟨k',o',B',hk',hf',rfl⟩
 have hext:Ext c w H c w' (H.set 24 k (some o)):=
  ⟨.refl c,by subst hw';rfl,by subst hw';rfl,by subst hw';rfl,by omega,fun b _ hno=>hoth b (fun e=>hno ⟨k,_,B,hk,hf,e.symm⟩),fun b hb' => .inl hb',fun b hb' => .inl (hown b hb')⟩
 have hrel:∀{x v},Rel c w x v→Rel c w' x v:=fun hr=>hext.rel h hr
 refine⟨hext,⟨fun b hb'=>by rw[hsz];exact h.imm_lt b hb',fun k' B' e=>by rw[hsz];exact h.f_lt k' B' e,?_,?_,fun g cs e=>hrel (h.glob g cs e)⟩⟩
 · intro k' o' hk'
   rw[Tr.get_set 24 k _ H k' hk24] at hk'
   by_cases e:k'=k
   · subst e
     simp only[if_true,Option.some.injEq] at hk';subst hk';exact⟨B,hf,hi,ho w' hnew hrel (fun b hb=>hext.imm h b hb)⟩
   · rw [if_neg e] at hk'
     obtain⟨B',hf',hi',ho'⟩:=h.obj k' o' hk';have hne:B'.b≠B.b:=fun e'=>e (h.inj k' k o' _ B' B hk' hk hf' hf e')
     exact⟨B',hf',hi',ho'.mono (hoth _ hne) hrel (fun b hb=>⟨hext.le.imm b hb,hext.imm h b hb⟩)⟩
 · intro k1 k2 o1 o2 B1 B2 g1 g2 f1 f2 eb
   rw[Tr.get_set 24 k _ H _ hk24] at g1 g2;have g1':∃o,H.get k1=some o:=by
    by_cases e:k1=k
    · exact⟨_,e ▸ hk⟩
    · rw[if_neg e] at g1;exact⟨_,g1⟩
   have g2':∃o,H.get k2=some o:=by
    by_cases e:k2=k
    · exact⟨_,e ▸ hk⟩
    · rw[if_neg e] at g2;exact⟨_,g2⟩
   obtain⟨_,g1'⟩:=g1';obtain⟨_,g2'⟩:=g2';exact h.inj k1 k2 _ _ B1 B2 g1' g2' f1 f2 eb
theorem WRel.drop (h:WRel G c w H)(k:Nat)(hk24:k+1<2 ^ 24):Ext c w H c w (H.set 24 k none)∧WRel G c w (H.set 24 k none):=by
 have hget:∀j o,(H.set 24 k none).get j=some o→H.get j=some o:=by
  intro j o e;rw[Tr.get_set 24 k _ H j hk24] at e
  by_cases hj:j=k
  · simp[hj] at e
  · rwa [if_neg hj] at e
 refine⟨⟨.refl c,rfl,rfl,rfl,Nat.le_refl _,fun _ _ _=>rfl,fun _ e => .inl e,?_⟩,⟨h.imm_lt,h.f_lt,fun j o e=>h.obj j o (hget j o e),fun k1 k2 o1 o2 B1 B2 g1 g2=>h.inj k1 k2 o1 o2 B1 B2 (hget _ _ g1) (hget _ _ g2),h.glob⟩⟩
 rintro b ⟨k',o,B',hk',hf',rfl⟩
 exact .inl ⟨k',o,B',hget _ _ hk',hf',rfl⟩
theorem WRel.rename (h:WRel G c w H){k k':Nat}(hk24:k+1<2 ^ 24)(hk24':k'+1<2 ^ 24)(hk':c.f k'=none){sz:Nat}{es es':List (List AV)}{B:Blk}(hk:H.get k=some (.arr sz es))(hf:c.f k=some B)
 (off n:Nat)(hn:off * sz+n≤B.n)(hcs:es'.length * sz≤n)(hget:∀(i:Nat) x,es'[i]? = some x→es[off+i]? = some x) :
 Ext c w H (c.bind k' ⟨B.b,B.s+off * sz,n,sz⟩) w ((H.set 24 k none).set 24 k' (some (.arr sz es')))∧WRel G (c.bind k' ⟨B.b,B.s+off * sz,n,sz⟩) w ((H.set 24 k none).set 24 k' (some (.arr sz es'))):=by
 have hne:k≠k':=by rintro rfl;rw[hf] at hk';cases hk'
 have hle:c.le (c.bind k' ⟨B.b,B.s+off * sz,n,sz⟩):=Ctx.le_bind hk';have hbk:(c.bind k' ⟨B.b,B.s+off * sz,n,sz⟩).f k'=some ⟨B.b,B.s+off * sz,n,sz⟩:=by simp[Ctx.bind]
 have hbo:∀j,j≠k'→(c.bind k' ⟨B.b,B.s+off * sz,n,sz⟩).f j=c.f j:=fun j hj=>by simp[Ctx.bind,hj]
 have hg:∀j o,((H.set 24 k none).set 24 k' (some (.arr sz es'))).get j=some o→(j=k'∧o = .arr sz es')∨(j≠k'∧j≠k∧H.get j=some o):=by
  intro j o e;rw[Tr.get_set 24 k' _ _ j hk24',Tr.get_set 24 k _ H j hk24] at e
  by_cases h1:j=k'
  · simp[h1] at e;exact .inl ⟨h1,e.symm⟩
  · by_cases h2 : j = k
    · simp[h2,hne] at e
    · simp[h1,h2] at e;exact .inr ⟨h1,h2,e⟩
 have hrel:∀{x v},Rel c w x v→Rel (c.bind k' ⟨B.b,B.s+off * sz,n,sz⟩) w x v:=fun hr=>hr.mono hle (fun _ _=>rfl)
 obtain⟨B0,hB0,hi,arr,t,hb,hs,hsz0,hl,hc⟩:=h.obj k _ hk;rw[hf] at hB0;cases hB0;refine⟨⟨hle,rfl,rfl,rfl,Nat.le_refl _,fun _ _ _=>rfl,fun _ e => .inl e,?_⟩,⟨h.imm_lt,?_,?_,?_,fun g cs e=>hrel (h.glob g cs e)⟩⟩
 · rintro b ⟨j, o, B', hj, hf', rfl⟩
   rcases hg j o hj with⟨rfl,_⟩|⟨h1,_,h3⟩
   · rw[hbk] at hf';cases hf';exact .inl ⟨k,_,B,hk,hf,rfl⟩
   · rw[hbo j h1] at hf';exact .inl ⟨j,o,B',h3,hf',rfl⟩
 · intro j B' e
   by_cases hj:j=k'
   · subst hj;rw[hbk] at e;cases e;exact h.f_lt k B hf
   · rw[hbo j hj] at e;exact h.f_lt j B' e
 · intro j o hj
   rcases hg j o hj with⟨rfl,rfl⟩|⟨h1,h2,h3⟩
   · refine ⟨_, hbk, hi, arr, t, hb, by simp; omega, rfl, hcs, fun i e he => ⟨(hc _ e (hget i e he)).1, fun j x hj => ?_⟩⟩
     obtain⟨v,e1,e2⟩:=(hc _ e (hget i e he)).2 j x hj;refine⟨v,?_,hrel e2⟩;rw[← e1];congr 1;simp only[Nat.add_mul,Nat.add_assoc]
   · obtain ⟨B', hf', hi', ho'⟩ := h.obj j o h3
     refine⟨B',by rw[hbo j h1];exact hf',hi',?_⟩
     exact ho'.mono rfl hrel (fun b hb=>⟨hle.imm b hb,rfl⟩)
 · intro k1 k2 o1 o2 B1 B2 g1 g2 f1 f2 eb
   rcases hg _ _ g1 with⟨rfl,_⟩|⟨h1,h2,h3⟩<;>rcases hg _ _ g2 with⟨e2,_⟩|⟨h1',h2',h3'⟩
   · exact e2.symm
   · rw [hbk] at f1; cases f1; rw [hbo _ h1'] at f2
     exact absurd (h.inj k k2 _ _ B B2 hk h3' hf f2 eb).symm h2'
   · subst e2; rw [hbk] at f2; cases f2; rw [hbo _ h1] at f1
     exact absurd (h.inj k1 k _ _ B1 B h3 hk f1 hf eb) h2
   · rw [hbo _ h1] at f1; rw [hbo _ h1'] at f2
     exact h.inj k1 k2 _ _ B1 B2 h3 h3' f1 f2 eb
end
end Go.Ago
end
