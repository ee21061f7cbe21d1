/-
  Part 45: lemmas, each with its own conditions.
-/
import Derived.Test.YthaolifcglpkdaaGreatDoorA15
set_option maxRecDepth 100000
set_option maxHeartbeats 0
set_option linter.all false
namespace Go.Ago
def Told (x y:AV):Prop:=∀(c:Ctx) (w:World) (v:Value),Rel c w x v→Rel c w y v
theorem DP.told {P:Program}{E:Env}{g:FuncId}{args:List AV}{Q Q':AE→Prop}(h:DP P E g args Q)(hq:∀ae,Q ae→∃x y,ae = .ret x∧Told x y∧Q' (.ret y)):DP P E g args Q':=by
 obtain⟨ae,h1,h2⟩:=h;obtain⟨x,y,rfl,h3,h4⟩:=hq ae h2;refine⟨.ret y,⟨h1.1,fun c w vs g1 g2 g3=>(h1.2 c w vs g1 g2 g3).mono ?_⟩,h4⟩
 rintro e w' ⟨c',ae,k1,k2,k3,k4,rfl⟩
 refine⟨c',.ret y,k1,k2,k3,?_,rfl⟩;cases e<;>first|exact k4.elim|exact h3 _ _ _ k4
theorem Told.r {x:AV}:Told x x:=fun _ _ _ h=>h
theorem Told.nil {sz:Nat}:Told .nils (.rsl sz []):=fun _ _ _ h=>Nrm0.n.rel h
theorem zvd {R:AV→AV→Prop}:∀{xs ys:List AV} {j:Nat} {y:AV},nrmL R xs ys→ys[j]? = some y→∃x,xs[j]? = some x∧R x y
 | x :: xs, y :: ys, 0, z, h, e => by
   simp only[List.getElem?_cons_zero,Option.some.injEq] at e;subst e;exact⟨x,rfl,h.1⟩
 | x :: xs, y :: ys, j + 1, z, h, e => by
   simp only[List.getElem?_cons_succ] at e ⊢;exact zvd h.2 e
 | [],[],_,_,_,e=>by simp at e
 | [],_::_,_,_,h,_=>h.elim
 | _::_,[],_,_,h,_=>h.elim
theorem zvc {R:AV→AV→Prop}:∀{xs ys:List AV},nrmL R xs ys→ys.length=xs.length
 | [],[],_=>rfl
 | x::xs,y::ys,h=>by simp[zvc h.2]
 | [],_::_,h=>h.elim
 | _::_,[],h=>h.elim
def znh (R:AV→AV→Prop):List (List AV)→List (List AV)→Prop
 | [],[]=>True
 | x::xs,y::ys=>nrmL R x y∧znh R xs ys
 | _,_=>False
theorem zqx {R:AV→AV→Prop}:∀{xs ys:List (List AV)},znh R xs ys→ys.length=xs.length
 | [],[],_=>rfl
 | x::xs,y::ys,h=>by simp[zqx h.2]
 | [],_::_,h=>h.elim
 | _::_,[],h=>h.elim
theorem zl4 {R:AV→AV→Prop}:∀{xs ys:List (List AV)} {j:Nat} {y:List AV},znh R xs ys→ys[j]? = some y→∃x,xs[j]? = some x∧nrmL R x y
 | x :: xs, y :: ys, 0, z, h, e => by
   simp only[List.getElem?_cons_zero,Option.some.injEq] at e;subst e;exact⟨x,rfl,h.1⟩
 | x :: xs, y :: ys, j + 1, z, h, e => by
   simp only[List.getElem?_cons_succ] at e ⊢;exact zl4 h.2 e
 | [],[],_,_,_,e=>by simp at e
 | [],_::_,_,_,h,_=>h.elim
 | _::_,[],_,_,h,_=>h.elim
theorem Told.rows {s:Nat}{es fs:List (List AV)}(h:znh Told es fs):Told (.rsl s es) (.rsl s fs):=by
 intro c w v hr;have hlen:=zqx h;cases hr with
 | rsl vs h1 h2 h3 h4 h5 =>
   rw[← hlen];refine .rsl vs (by omega) (fun h0=>h2 (by omega)) (fun i e he=>?_) (fun i j a b=>h4 i j (by omega) b) (fun i j e x he hx=>?_)
   · obtain ⟨e0, g1, g2⟩ := zl4 h he
     rw[zvc g2];exact h3 i e0 g1
   · obtain ⟨e0, g1, g2⟩ := zl4 h he
     obtain⟨x0,g3,g4⟩:=zvd g2 hx;exact g4 _ _ _ (h5 i j e0 x0 g1 g3)
 | rnil =>
   cases fs with
   | nil=>exact .rnil s
   | cons _ _=>exact h.elim
theorem Told.tup {xs ys:List AV}(h:nrmL Told xs ys):Told (.tup xs) (.tup ys):=by
 intro c w v hr;cases hr with
 | tup hl hr =>
   have:=zf1 (fun x y v a b=>a c w v b) h ⟨hl,hr⟩
   exact .tup this.1 this.2
theorem Told.agg {xs ys:List AV}(h:nrmL Told xs ys):Told (.agg xs) (.agg ys):=by
 intro c w v hr;cases hr with
 | agg hl hr =>
   have:=zf1 (fun x y v a b=>a c w v b) h ⟨hl,hr⟩
   exact .agg this.1 this.2
end Go.Ago
