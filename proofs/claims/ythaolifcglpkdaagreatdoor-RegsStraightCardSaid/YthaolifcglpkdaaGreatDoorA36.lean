/-
  Part 36: lemmas, each with its own conditions.
-/
import Derived.Test.YthaolifcglpkdaaGreatDoorA29
import Derived.Test.YthaolifcglpkdaaGreatDoorA35
set_option maxRecDepth 100000
set_option maxHeartbeats 0
set_option linter.all false
namespace Go.Ago
open Go.Proofs
attribute [local irreducible] ltI leI eqI eqS shrI wr inB mmI comp DC DP DW DV
attribute [local irreducible] zcs bitW putW zgz orW putL orL nowF nowA nowB inm zas zbn famS zdp muS
structure StS (g:Gr) where
 S:List (List W64)
 sh:ShS g S
 lo:LowS g S
def StS.step {g:Gr}(hg:GrOK g)(x:StS g)(k:Nat)(hk:k≤g.ins.l.length):StS g:=⟨zdp g x.S k,x.sh.step hg hk,x.lo.step hg x.sh hk⟩
structure PaS (g:Gr)(S:List (List W64)) where
 m:Nat
 hm:m≤g.ins.l.length+1
 sat:∀k,m≤k→k≤g.ins.l.length→Sat g S k
structure ReS (g:Gr)(S:List (List W64)) where
 m:Nat
 hm:m≤g.ins.l.length
 x:StS g
 lt:muS x.S<muS S
theorem znk (g:Gr)(hg:GrOK g)(S:List (List W64))(hs:ShS g S)(a:Int)(k:Nat)(ha:a=(k:Int))(hk:k≤g.ins.l.length):DC Tryz.prog ERg 80 [i64 a,.ptr 0 0 0,.ptr 7 0 0] (HL g S) 5000000
 (fun ae H' n=>(ae = .ret (.bool false)∧H'=HL g S∧n=5500000∧Sat g S k)∨(ae = .ret (.bool true)∧H'=HL g (zdp g S k)∧n=5500000∧¬Sat g S k)):=by
 refine(zh2 g hg S hs a k ha hk).mono ?_
 rintro _ _ _ ⟨rfl,rfl,rfl⟩
 by_cases h:Sat g S k
 · exact .inl ⟨by rw[zxr (show orW (rowS S k) (nowB g S k)=rowS S k from h)],by rw[zt9 hs hk h],rfl,h⟩
 · exact .inr ⟨by rw[zxs (show ¬orW (rowS S k) (nowB g S k)=rowS S k from h)],rfl,rfl,h⟩
theorem znj (g:Gr)(hg:GrOK g)(S:List (List W64))(hs:ShS g S)(a:Int)(k:Nat)(ha:a=(k:Int))(hk:k≤g.ins.l.length):DC Tryz.prog ERg 80 [i64 a,.ptr 0 0 0,.ptr 7 0 0] (HL g S) 8000000
 (fun ae H' n=>(ae = .ret (.bool false)∧H'=HL g S∧n=8500000∧Sat g S k)∨(ae = .ret (.bool true)∧H'=HL g (zdp g S k)∧n=8500000∧¬Sat g S k)):=by
 refine(znl g hg S hs a k ha hk).mono ?_
 rintro _ _ _ ⟨rfl,rfl,rfl⟩
 by_cases h:Sat g S k
 · exact .inl ⟨by rw[zxr (show orW (rowS S k) (nowB g S k)=rowS S k from h)],by rw[zt9 hs hk h],rfl,h⟩
 · exact .inr ⟨by rw[zxs (show ¬orW (rowS S k) (nowB g S k)=rowS S k from h)],rfl,rfl,h⟩
def PaS.next {g:Gr}{S:List (List W64)}(y:PaS g S)(h:Sat g S (y.m - 1)):PaS g S:=
 ⟨y.m - 1,by have:=y.hm;omega,fun k h1 h2=>by
  rcases Nat.lt_or_ge k y.m with h3|h3
  · rw[show k=y.m - 1 by omega];exact h
  · exact y.sat k h3 h2⟩
def ReS.skip {g:Gr}{S:List (List W64)}(z:ReS g S):ReS g S:=⟨z.m - 1,by have:=z.hm;omega,z.x,z.lt⟩
def ReS.step {g:Gr}(hg:GrOK g){S:List (List W64)}(z:ReS g S)(hk:z.m - 1≤g.ins.l.length):ReS g S:=
 ⟨z.m - 1,by have:=z.hm;omega,z.x.step hg (z.m - 1) hk,Nat.lt_of_le_of_lt (zvh hg z.x.sh hk).1 z.lt⟩
def ReS.first {g:Gr}(hg:GrOK g)(x:StS g)(m:Nat)(hk:m≤g.ins.l.length)(h:¬Sat g x.S m):ReS g x.S:=
 ⟨m,by omega,x.step hg m hk,(zvh hg x.sh hk).2 h⟩
theorem yhx (g:Gr)(hg:GrOK g)(x0:StS g):DC Tryz.prog ERg 79 [.slc 6 0 (g.ins.l.length+1) 1,.fn (.func 80) [] [.ptr 0 0 0,.ptr 7 0 0]] (HL g x0.S) 3000000 (fun ae H' n=>ae = .ret (.tup [])∧n≤16000000∧∃S,LiveOK g S∧∀j o,(HL g S).get j=some o→H'.get j=some o):=by
 refine zay eRg zae Tryz.func79 rfl (by decide) rfl rfl ?_
 have hil:=g.ins.h;have hF:famN=1048576:=rfl;have hfew:=hg.few
 conv=>whnf
 repeat' first
  | (refine DW.scope eRg zae ?_;conv=>whnf)
 refine zcr eRg zae [0,1] [] 1000000 fA (fun x:StS g=>[]) (fun x=>[]) (fun x=>famS x.S) [] (fun x=>muS x.S) (x0) ?_
 conv=>whnf
 refine⟨⟨_,FamW.inner rfl rfl (by(repeat' (first|exact zbe|(refine za5 (x:=?_) ?_ ?_ ?_ ?_;rotate_left;exact rfl;((conv=>rhs;whnf)<;>(first|(refine zdq (zax ?_);exact rfl)|rfl ));(first|(refine zb5 ?_;exact rfl)|rfl))))) (by(repeat' (first|exact za6|(refine za0 (x:=?_) ?_ ?_ ?_ ?_ ?_ ?_;rotate_left;exact rfl;exact rfl;exact rfl;(first|(refine zbi ?_ ?_<;>first|rfl|omega)|rfl);(first|(refine zbt ?_ ?_<;>first|rfl|omega)|rfl))))) rfl (by(intro j o hj hg0;(try rw[hz1] at hg0);(repeat' exact zbo hj hg0 (zbb hg0) ))) rfl⟩,fun x=>?_⟩
 conv=>whnf
 refine zcr eRg zae [0,1,5,6,7] [] 100000 fA (fun y:PaS g x.S=>[(4,i64 ((y.m:Int) - 1))]) (fun y=>[]) (fun y=>famS x.S) [] (fun y=>y.m) (⟨g.ins.l.length+1,Nat.le_refl _,fun k h1 h2=>by omega⟩) ?_
 conv=>whnf
 refine⟨⟨_,FamW.inner rfl rfl (by(repeat' (first|exact zbe|(refine za5 (x:=?_) ?_ ?_ ?_ ?_;rotate_left;exact rfl;((conv=>rhs;whnf)<;>(first|(refine zdq (zax ?_);exact rfl)|rfl|(refine congrArg (AV.int IntKind.i64) ?_;(try dsimp only);refine(wr64 (by omega) (by omega)).trans ?_;omega)));(first|(refine zb5 ?_;exact rfl)|rfl))))) (by(repeat' (first|exact za6|(refine za0 (x:=?_) ?_ ?_ ?_ ?_ ?_ ?_;rotate_left;exact rfl;exact rfl;exact rfl;(first|(refine zbi ?_ ?_<;>first|rfl|omega)|rfl);(first|(refine zbt ?_ ?_<;>first|rfl|omega)|rfl))))) rfl (by(intro j o hj hg0;(try rw[hz1] at hg0);(repeat' exact zbo hj hg0 (zbb hg0) ))) rfl⟩,fun y=>?_⟩
 conv=>whnf
 repeat' ((first|refine Br.split (fun h=>?_) (fun h=>?_)<;>(try simp only[bz] at h)|(refine zil (m:=5000000) rfl ?_;refine(znk g hg x.S x.sh _ (y.m - 1) (by omega) (by have:=y.hm;omega)).mono ?_;rintro _ _ _ (⟨rfl,rfl,rfl,hsat⟩|⟨rfl,rfl,rfl,hsat⟩)))<;>conv=>whnf)
 all_goals first
  | exact⟨rfl,Nat.le_of_ble_eq_true rfl,x.S,LiveOK.mk' hg x.sh x.lo (fun k hk=>y.sat k (by omega) hk),fun j o h=>h⟩
  | (have hym := y.hm
     obtain⟨y1,hy1⟩:∃y1:PaS g x.S,y1.m=y.m - 1:=⟨y.next hsat,rfl⟩;refine⟨y1,_,FamW.inner rfl rfl (by(repeat' (first|exact zbe|(refine za5 (x:=?_) ?_ ?_ ?_ ?_;rotate_left;exact rfl;((conv=>rhs;whnf)<;>(first|(refine zdq (zax ?_);exact rfl)|rfl|(refine congrArg (AV.int IntKind.i64) ?_;(try dsimp only);refine(wr64 (by omega) (by omega)).trans ?_;omega)));(first|(refine zb5 ?_;exact rfl)|rfl))))) (by(repeat' (first|exact za6|(refine za0 (x:=?_) ?_ ?_ ?_ ?_ ?_ ?_;rotate_left;exact rfl;exact rfl;exact rfl;(first|(refine zbi ?_ ?_<;>first|rfl|omega)|rfl);(first|(refine zbt ?_ ?_<;>first|rfl|omega)|rfl))))) rfl (by(intro j o hj hg0;(repeat' exact zbo hj hg0 (zbb hg0) ))) rfl,rfl,?_⟩
     show y1.m<y.m;omega)
  | skip
 have hym:=y.hm;obtain⟨z0,hz0,hz1⟩:∃z:ReS g x.S,z.m=y.m - 1∧z.x.S=zdp g x.S (y.m - 1):=⟨ReS.first hg x (y.m - 1) (by omega) hsat,rfl,rfl⟩
 refine zcr eRg zae [0,1,5,6,7,8,9,12,13,14,15,16] [] 100000 fA (fun z:ReS g x.S=>[(4,i64 ((z.m:Int) - 1))]) (fun z=>[]) (fun z=>famS z.x.S) [] (fun z=>z.m) (z0) ?_
 conv=>whnf
 refine⟨⟨_,FamW.inner rfl rfl (by(repeat' (first|exact zbe|(refine za5 (x:=?_) ?_ ?_ ?_ ?_;rotate_left;exact rfl;((conv=>rhs;whnf)<;>(first|(refine zdq (zax ?_);exact rfl)|rfl|(refine congrArg (AV.int IntKind.i64) ?_;(try dsimp only);refine(wr64 (by omega) (by omega)).trans ?_;omega)));(first|(refine zb5 ?_;exact rfl)|rfl))))) (by(repeat' (first|exact za6|(refine za0 (x:=?_) ?_ ?_ ?_ ?_ ?_ ?_;rotate_left;exact rfl;exact rfl;exact rfl;(first|(refine zbi ?_ ?_<;>first|rfl|omega)|rfl);(first|(refine zbt ?_ ?_<;>first|rfl|omega)|rfl))))) rfl (by(intro j o hj hg0;(try rw[hz1] at hg0);(repeat' exact zbo hj hg0 (zbb hg0) ))) rfl⟩,fun z=>?_⟩
 conv=>whnf
 repeat' ((first|refine Br.split (fun h=>?_) (fun h=>?_)<;>(try simp only[bz] at h)|(refine zil (m:=8000000) rfl ?_;refine(znj g hg z.x.S z.x.sh _ (z.m - 1) (by omega) (by have:=z.hm;omega)).mono ?_;rintro _ _ _ (⟨rfl,rfl,rfl,hsat⟩|⟨rfl,rfl,rfl,hsat⟩)))<;>conv=>whnf)
 all_goals have hzm:=z.hm
 all_goals first
  | (have hs1 : Sat g z.x.S (z.m - 1) := hsat
     obtain⟨z1,hy1,hy2⟩:∃z1:ReS g x.S,z1.m=z.m - 1∧z1.x.S=z.x.S:=⟨z.skip,rfl,rfl⟩;refine⟨z1,_,FamW.inner rfl rfl (by(repeat' (first|exact zbe|(refine za5 (x:=?_) ?_ ?_ ?_ ?_;rotate_left;exact rfl;((conv=>rhs;whnf)<;>(first|(refine zdq (zax ?_);exact rfl)|rfl|(refine congrArg (AV.int IntKind.i64) ?_;(try dsimp only);refine(wr64 (by omega) (by omega)).trans ?_;omega)));(first|(refine zb5 ?_;exact rfl)|rfl))))) (by(repeat' (first|exact za6|(refine za0 (x:=?_) ?_ ?_ ?_ ?_ ?_ ?_;rotate_left;exact rfl;exact rfl;exact rfl;(first|(refine zbi ?_ ?_<;>first|rfl|omega)|rfl);(first|(refine zbt ?_ ?_<;>first|rfl|omega)|rfl))))) rfl (by(intro j o hj hg0;rw[hy2] at hg0;(repeat' exact zbo hj hg0 (zbb hg0) ))) rfl,rfl,?_⟩
     show z1.m<z.m;omega)
  | (have hs1 : ¬ Sat g z.x.S (z.m - 1) := hsat
     obtain⟨z1,hy1,hy2⟩:∃z1:ReS g x.S,z1.m=z.m - 1∧z1.x.S=zdp g z.x.S (z.m - 1):=⟨z.step hg (by omega),rfl,rfl⟩
     refine⟨z1,_,FamW.inner rfl rfl (by(repeat' (first|exact zbe|(refine za5 (x:=?_) ?_ ?_ ?_ ?_;rotate_left;exact rfl;((conv=>rhs;whnf)<;>(first|(refine zdq (zax ?_);exact rfl)|rfl|(refine congrArg (AV.int IntKind.i64) ?_;(try dsimp only);refine(wr64 (by omega) (by omega)).trans ?_;omega)));(first|(refine zb5 ?_;exact rfl)|rfl))))) (by(repeat' (first|exact za6|(refine za0 (x:=?_) ?_ ?_ ?_ ?_ ?_ ?_;rotate_left;exact rfl;exact rfl;exact rfl;(first|(refine zbi ?_ ?_<;>first|rfl|omega)|rfl);(first|(refine zbt ?_ ?_<;>first|rfl|omega)|rfl))))) rfl (by(intro j o hj hg0;rw[hy2] at hg0;(repeat' exact zbo hj hg0 (zbb hg0) ))) rfl,rfl,?_⟩
     show z1.m<z.m;omega)
  | (refine ⟨z.x, _, FamW.inner rfl rfl (by (repeat' (first | exact zbe | (refine za5 (x := ?_) ?_ ?_ ?_ ?_; rotate_left; exact rfl; ((conv => rhs; whnf) <;> (first | (refine zdq (zax ?_); exact rfl) | (refine zec (zax ?_); exact rfl) | rfl | (refine congrArg (AV.int IntKind.i64) ?_; (try dsimp only); refine (wr64 (by omega) (by omega)).trans ?_; omega))); (first | (refine zb5 ?_; exact rfl) | (refine zcl ?_; exact rfl) | rfl))))) (by (repeat' (first | exact za6 | (refine za0 (x := ?_) ?_ ?_ ?_ ?_ ?_ ?_; rotate_left; exact rfl; exact rfl; exact rfl; (first | exact zfx | (refine zbi ?_ ?_ <;> first | rfl | omega) | exact True.intro | rfl); (first | exact zcb | (refine zbt ?_ ?_ <;> first | rfl | omega) | rfl))))) rfl (by (intro j o hj hg0; (repeat' first | exact zbo hj hg0 (zbb hg0) | (refine zeg hj ?_ ?_; (first | rfl | (fail))) | (refine yay ?_ ?_; (first | rfl | (fail)))))) rfl, rfl, ?_⟩
     exact z.lt)
end Go.Ago
section
namespace Go.Ago
open Go.Proofs
attribute [local irreducible] ltI leI eqI eqS shrI wr inB mmI comp DC DP DW DV
attribute [local irreducible] zcs bitW putW zgz orW putL orL nowF nowA nowB inm zas zbn famS zdp muS
theorem zxf {l l' l2:Int}{b s:Nat}(h:l=l')(h2:l2=l')(h0:0≤l'∧l'≤1000000)(hb:Nat.ble b 10000=true)(hs:Nat.blt 0 s=true):(decide (0≤l) && decide (l≤l2) && decide (l2≤9223372036854775807) && decide ((b:Int) * l2≤140737488355328) && Nat.blt 0 s)=true:=by
 subst h;subst h2;have hb':=Nat.le_of_ble_eq_true hb;have h3:(b:Int) * l2≤10000 * 1000000:=Int.mul_le_mul (by omega) h0.2 h0.1 (by decide)
 simp only[Bool.and_eq_true,decide_eq_true_eq];exact⟨⟨⟨⟨h0.1,Int.le_refl _⟩,by omega⟩,by omega⟩,hs⟩
def zgg (n nw k:Nat):List (List AV):=(List.range n).map fun j=>if j<k then [AV.slc (inm fA j) 0 nw 1] else [AV.nils]
theorem znw {n nw k:Nat}(h:n≤k):zgg n nw k=zc0 n nw:=by
 unfold zgg zc0;refine List.map_congr_left fun j hj=>?_
 have:=List.mem_range.1 hj;rw[if_pos (by omega)]
theorem yh6 {n nw:Nat}{c:Nat}(h:c=n):List.replicate c [AV.nils]=zgg n nw 0:=by
 subst h;unfold zgg;simp only[Nat.not_lt_zero,if_false];rw[List.map_const',List.length_range]
theorem zql {n nw k m NEW:Nat}{l:List (Nat×Nat)}(hA:Nat.ble m fA=true)(hn:n≤1001)(hk:k<n){i:Nat}(hi:i=k) :
 AObj.arr 1 ((zgg n nw k).set i [AV.slc NEW 0 nw 1])=(AObj.arr 1 (zgg n nw (k+1))).ren (renF m fA (fun j=>bif Nat.beq j k then NEW else inm fA j) l):=by
 subst hi;have hA:=Nat.le_of_ble_eq_true hA;have e0:fA=1000:=rfl;have e9:famN=1048576:=rfl;show AObj.arr 1 _=AObj.arr 1 _
 congr 1
 unfold zgg;rw[List.map_map];refine List.ext_getElem (by simp) fun j h1 h2=>?_
 have hj:j<n:=by simpa using h1
 have e2:Nat.blt (fA+j) m=false:=by
  cases e:Nat.blt (fA+j) m with
  | false=>rfl
  | true=>have:=Nat.le_of_ble_eq_true e;omega
 have e3:(Nat.ble fA (fA+j) && Nat.blt (fA+j) (fA+famN))=true:=by
  rw[Nat.ble_eq_true_of_le (Nat.le_add_right _ _),show Nat.blt (fA+j) (fA+famN)=true from Nat.ble_eq_true_of_le (by omega)];rfl
 have e4:renF m fA (fun j=>bif Nat.beq j i then NEW else inm fA j) l (inm fA j)=bif Nat.beq j i then NEW else inm fA j:=by
  conv=>lhs;rw[ygq]
  unfold renF;rw[e2,e3];simp[ygq]
 by_cases hji:j=i
 · subst hji
   simp only[List.getElem_set_self,List.getElem_map,List.getElem_range,Function.comp_apply,if_pos (Nat.lt_succ_self j),List.map_cons,List.map_nil,AV.r1,AV.ra,AV.r0];rw[e4,show Nat.beq j j=true from Nat.beq_refl j];rfl
 · have e5:Nat.beq j i=false:=by
    cases e:Nat.beq j i with
    | false=>rfl
    | true=>exact absurd (Nat.eq_of_beq_eq_true e) hji
   rw[List.getElem_set_ne (Ne.symm hji)];simp only[List.getElem_map,List.getElem_range,Function.comp_apply]
   by_cases hlt:j<i
   · rw [if_pos hlt, if_pos (by omega)]
     simp only[List.map_cons,List.map_nil,AV.r1,AV.ra,AV.r0];rw[e4,e5];rfl
   · rw[if_neg hlt,if_neg (by omega)];rfl
theorem zlf {n nw k m:Nat}(hA:Nat.ble (fA+famN) m=true)(hn:n≤1001):(AObj.arr 1 (zgg n nw k)).lt m:=by
 have hA:=Nat.le_of_ble_eq_true hA;have e1:fA=1000:=rfl;have e2:famN=1048576:=rfl;show(List.all _ _)=true;unfold zgg;rw[List.all_map,List.all_eq_true];intro j hj;have:=List.mem_range.1 hj;have e:Nat.blt (inm fA j) m=true:=Nat.ble_eq_true_of_le (by unfold inm;omega)
 simp only[Function.comp_apply];split<;>simp[AV.l1,AV.la,AV.l0,e]
theorem zqf {n nw c:Nat}{ρ:Nat→Nat}(h:c=n):AObj.arr 1 (List.replicate c [AV.nils])=(AObj.arr 1 (zgg n nw 0)).ren ρ:=by
 rw[← yh6 h];show AObj.arr 1 _=AObj.arr 1 _;rw[List.map_replicate];rfl
theorem ycl {c n:Nat}{ρ:Nat→Nat}(h:c=n)(h6:ρ 6=6):AObj.arr 1 [[AV.slc 6 0 c 1]]=(AObj.arr 1 [[AV.slc 6 0 n 1]]).ren ρ:=by
 subst h;simp only[AObj.ren,List.map_cons,List.map_nil,AV.r1,AV.ra,AV.r0,h6]
abbrev repZ (g:Gr)(k:Nat):List (List W64):=List.replicate k (zcc (nwg g))
theorem zu0 {g:Gr}{k j:Nat}(hj:j≠k):famS (repZ g (k+1)) j=famS (repZ g k) j:=by
 rw[zjc,zjc]
 by_cases h:j<k
 · rw[dif_pos (by simp;omega),dif_pos (by simpa using h)];simp
 · rw[dif_neg (by simp;omega),dif_neg (by simpa using h)]
theorem yge {g:Gr}{k:Nat}{o:AObj}(h:famS (repZ g (k+1)) k=some o):o=setO (zcc (nwg g)):=by
 rw[zce (by simp)] at h
 cases h
 congr 1
 simp[rowS,List.getD]
theorem zk5 {g:Gr}{j:Nat}{o:AObj}(h:famS (repZ g 0) j=some o):False:=by
 rw[zjc,dif_neg (by simp)] at h;cases h
theorem zs7 {α β γ:Type}{f:β→Option γ}{h:α→β}{k:α→γ}:∀{l:List α},(∀x∈l,f (h x)=some (k x))→mapO f (l.map h)=some (l.map k)
 | [],_=>rfl
 | x :: l, hx => by
   have:=@zs7 α β γ f h k l fun y hy=>hx y (List.mem_cons_of_mem _ hy)
   simp only[List.map_cons,mapO,hx x List.mem_cons_self,this]
theorem yh0 {g:Gr}{S:List (List W64)}(hs:ShS g S)(hn:g.ins.l.length≤1000):snap (HL g S) 20 (.slc 6 0 (g.ins.l.length+1) 1)=some (.rsl 1 (S.map fun ws=>[zek ws])):=by
 have e9:famN=1048576:=rfl;have h6:(HL g S).get 6=some (.arr 1 (zc0 (g.ins.l.length+1) (nwg g))):=rfl;have hlen:(zc0 (g.ins.l.length+1) (nwg g)).length=g.ins.l.length+1:=by simp[zc0]
 have h3:List.take (g.ins.l.length+1) (List.drop 0 (zc0 (g.ins.l.length+1) (nwg g)))=zc0 (g.ins.l.length+1) (nwg g):=by rw[List.drop_zero];exact List.take_of_length_le (by omega)
 have h5:mapO (mapO (snap (HL g S) 19)) (zc0 (g.ins.l.length+1) (nwg g))=some (S.map fun ws=>[zek ws]):=by
  have hr:S.map (fun ws=>[zek ws])=(List.range (g.ins.l.length+1)).map fun j=>[zek (rowS S j)]:=by
   refine List.ext_getElem (by simp[hs.len]) fun j h1 h2=>?_
   have:j<S.length:=by simpa using h1
   simp[rowS,List.getD,this]
  rw[hr];refine zs7 fun j hj=>?_
  have hj:=List.mem_range.1 hj;have hget:(HL g S).get (inm fA j)=some (setO (rowS S j)):=(zdx (by omega)).trans (zce (by rw[hs.len];omega))
  have:=zbk (H:=HL g S) (k:=inm fA j) (n:=18) (f:=zh6) (l:=rowS S j) (m:=nwg g) (sz:=1) (fun _=>rfl) hget rfl (zbd hs (by omega)).symm
  exact zab this rfl
 exact zky (n:=19) h6 (by rw[hlen];omega) (by rw[h3];exact h5)
theorem zus {n nw k:Nat}(h:k<n):(zgg n nw k)[0+((k:Int)).toNat]? = some [AV.nils]:=by simp[zgg,h]
theorem yi4 {g:Gr}{k:Nat}(hk:k=g.ins.l.length+1):∀j,(Tr.fam fA famN (famS (repZ g k)) (.put 7 (some (boxO g)) (.put 6 (some (.arr 1 (zgg (g.ins.l.length+1) (nwg g) k))) (.put 0 (some (.arr 3 [g.cells])) .nil)))).get j=(HL g (repZ g (g.ins.l.length+1))).get j:=by
 subst hk;rw[znw (Nat.le_refl _)];exact fun _=>rfl
theorem yhw (g:Gr)(hg:GrOK g):DC Tryz.prog ERg 79 [.slc 6 0 (g.ins.l.length+1) 1,.fn (.func 80) [] [.ptr 0 0 0,.ptr 7 0 0]] (HL g (repZ g (g.ins.l.length+1))) 3000000 (fun ae H' n=>ae = .ret (.tup [])∧n=16000000∧∃S,LiveOK g S∧H'=HL g S):=
 (yhx g hg ⟨_,ShS.zero,LowS.zero⟩).forget (by rintro ae H' n ⟨h1,h2,S,h3,h4⟩;exact⟨_,16000000,h2,h4,h1,rfl,S,h3,rfl⟩)
attribute [local irreducible] zgg zc0
theorem zvo (g:Gr)(hg:GrOK g):DPR 37 [g.av] (fun ae=>∃S,ae = .ret (.rsl 1 (S.map fun ws=>[zek ws]))∧LiveOK g S):=by
 refine zaf eRg zae Tryz.func37 rfl (by decide) rfl rfl ?_
 have hil:=g.ins.h;have hF:famN=1048576:=rfl;have hfew:=hg.few;have hregs:=hg.regs;have hw:wr .i64 ((g.ins.l.length:Int)+1)=(g.ins.l.length:Int)+1:=wr64 (by omega) (by omega)
 have hw2:(wr .i64 (((g.ins.l.map Ins.cells).length:Int)+1)).toNat=g.ins.l.length+1:=by rw[List.length_map,hw];omega
 conv=>whnf
 repeat' first
  | (refine Rq.mk (zxf (by simp only[List.length_map];exact hw) (by simp only[List.length_map];exact hw) (by omega) (by decide) rfl) ?_;conv=>whnf)
 refine zcr eRg zae [1,2,3] [7,6] 2000000 fA (fun i:{i:Nat // i≤g.ins.l.length+1}=>[(12,i64 i.1),(11,i64 ((g.ins.l.length+1:Nat):Int))]) (fun i=>[(7,boxO g),(6,.arr 1 (zgg (g.ins.l.length+1) (nwg g) i.1))]) (fun i=>famS (repZ g i.1)) [] (fun i=>g.ins.l.length+2 - i.1) (⟨0,Nat.zero_le _⟩) ?_
 conv=>whnf
 refine⟨⟨_,FamW.grow (k:=0) (NEW:=2000019) rfl rfl rfl rfl ?_ ?_ rfl (fun j o _ _ h=>(zk5 h).elim) (fun o h=>(zk5 h).elim) rfl⟩,fun i=>?_⟩
 · (repeat' (first|exact zbe|(refine za5 (x:=?_) ?_ ?_ ?_ ?_;rotate_left;exact rfl;((conv=>rhs;whnf)<;>(first|(rw[hw2];done)|(refine zec (zax ?_);exact rfl)|rfl ));(first|(refine zcl ?_;exact rfl)|rfl))))
 · (repeat' (first|exact za6|(refine za0 (x:=?_) ?_ ?_ ?_ ?_ ?_ ?_;rotate_left;exact rfl;exact rfl;exact rfl;(first|(refine zqf ?_;exact hw2)|(refine ycl ?_ (zax ?_);(exact hw2 );exact rfl)|rfl);(first|(refine zlf ?_ ?_<;>first|rfl|omega)|rfl))))
 conv=>whnf
 repeat' ((first|refine Rq.mk (b:=chk3 _ _ _ _ _ _) (by kernel_rfl) ?_|refine Rq.mk (by(first|rfl|((try simp only[rz]);omega))) ?_|refine Br.split (fun h=>?_) (fun h=>?_)<;>(try simp only[bz] at h)|refine And.intro (a:=zaw _=true) (by kernel_rfl) (LzK.e ?_)|refine zkh rfl (zl6 g.regs hregs) zjs rfl ?_|refine zap (zus (by omega)) ?_|(refine zil (m:=3000000) rfl ?_;refine DC.heap (yi4 (k:=i.1) (by omega)) ?_;refine(yhw g hg).mono ?_;rintro _ _ _ ⟨rfl,rfl,S,hS,rfl⟩))<;>conv=>whnf)
 · have hi : i.1 < g.ins.l.length + 1 := by omega
   refine⟨⟨i.1+1,hi⟩,_,FamW.grow (k:=i.1) (NEW:=2000019) rfl rfl rfl rfl ?_ ?_ rfl ?_ ?_ rfl,rfl,?_⟩
   · (repeat' (first|exact zbe|(refine za5 (x:=?_) ?_ ?_ ?_ ?_;rotate_left;exact rfl;((conv=>rhs;whnf)<;>(first|(refine zec (zax ?_);exact rfl)|(refine congrArg (AV.int IntKind.i64) ?_;(try dsimp only);refine(wr64 (by omega) (by omega)).trans ?_;omega)));(first|(refine zcl ?_;exact rfl)|rfl))))
   · (repeat' (first|exact za6|(refine za0 (x:=?_) ?_ ?_ ?_ ?_ ?_ ?_;rotate_left;exact rfl;exact rfl;exact rfl;(first|(refine ycl ?_ (zax ?_);(rfl);exact rfl)|(refine zql ?_ ?_ ?_ ?_;exact rfl;omega;(show i.1<_;omega);simp)|rfl);(first|(refine zlf ?_ ?_<;>first|rfl|omega)|rfl))))
   · intro j o hj hjk hg0
     have hg1:famS (repZ g (i.1+1)) j=some o:=hg0;rw[zu0 hjk] at hg1
     (repeat' first|exact zbo hj hg1 (zbb hg1)|(refine zeg hj ?_ ?_;(rfl ))|(refine yay ?_ ?_;(rfl )))
   · intro o ho
     obtain rfl:=yge ho;exact zn9 (o:=setO (zcc (nwg g))) rfl ⟨zfx,zcb⟩
   · dsimp only;omega
 · generalize hg2 : snap _ 20 _ = rr
   obtain rfl:=hg2.symm.trans (yh0 hS.toShS (by omega))
   conv=>whnf
   exact⟨S,rfl,hS⟩
end Go.Ago
end
section
namespace Go.Ago
open Go.Proofs
attribute [local irreducible] ltI leI eqI eqS shrI wr inB mmI comp DC DP DW DV
attribute [local irreducible] zcs bitW putW zgz orW za3 inm zas zbn zbg famS zdp muS
theorem zc3 (ws:List W64)(h1:ws.length≤1)(n:Int)(h:0≤n∧n≤64 * (ws.length:Int)):DPR 39 [zek ws,i64 n] (fun ae=>ae = .ret (zaq (za3 ws n.toNat))):=
 yeh ⟨ws,by omega⟩ n ⟨h.1,h.2,by omega⟩
def zki (S:List (List W64))(k:Nat):W64:=(rowS S k).headD 0
theorem zzd {g:Gr}{S:List (List W64)}(hs:ShS g S)(h0:nwg g=0){k:Nat}(hk:k≤g.ins.l.length):rowS S k=[]:=List.eq_nil_of_length_eq_zero (by rw[zbd hs hk,h0])
theorem zzc {g:Gr}{S:List (List W64)}(hs:ShS g S)(h0:nwg g=1){k:Nat}(hk:k≤g.ins.l.length):rowS S k=[zki S k]:=by
 have:=zbd hs hk;unfold zki;rcases hr:rowS S k with _|⟨w,_|⟨_,_⟩⟩
 · rw[hr,h0] at this;cases this
 · rfl
 · rw[hr,h0] at this;simp at this
theorem zh9 {g:Gr}{S:List (List W64)}(hs:ShS g S){k:Nat}(hk:k≤g.ins.l.length){x:Int}(hx:x=(k:Int)){ws:List W64}(hr:rowS S k=ws):(S.map fun ws=>[zek ws])[x.toNat]? = some [zek ws]:=by
 subst hx;have hlt:k<S.length:=by rw[hs.len];omega
 rw[← hr];simp[rowS,List.getD,hlt]
attribute [local irreducible] zki
theorem zpb {g:Gr}{S:List (List W64)}{k:Nat}(h:k<g.ins.l.length)(hd:0≤zbg g.ins.l[k]):zjy g S k=za3 (putW (rowS S (k+1)) (zbg g.ins.l[k]).toNat) g.regs.toNat:=by
 unfold zjy zg3;rw[dif_pos h,if_pos hd]
theorem zvg {g:Gr}{S:List (List W64)}{k:Nat}(h:k<g.ins.l.length)(hd:¬0≤zbg g.ins.l[k]):zjy g S k=za3 (rowS S (k+1)) g.regs.toNat:=by
 unfold zjy zg3;rw[dif_pos h,if_neg hd]
theorem ybs (w:W64):DC Tryz.prog ERg 75 [.rsl 1 [zh6 w]] .nil 0 (fun ae H' _=>ae = .ret (.slc 5 0 1 1)∧H'.get 5=some (setO [w])):=by
 refine zay eRg zae Tryz.func75 rfl (by decide) rfl rfl ?_
 conv=>whnf
 repeat' ((first|refine Br.f (b:=Nat.beq _ _) rfl ?_|refine Rq.mk (by(rfl )) ?_)<;>conv=>whnf)
 exact⟨rfl,rfl⟩
theorem ygp {n:Int}{a b c d:Nat}{ρ:Nat→Nat}(h1:a=c)(h2:b=d):AV.int .i64 (mmI true (mmI true n (a:Int)) (b:Int))=(AV.int .i64 (max (max n (c:Int)) (d:Int))).r2 ρ:=by
 subst h1;subst h2;simp only[ygl,AV.r2,AV.r1,AV.ra,AV.r0]
theorem yp1 (w:W64)(r:Nat):(putW [w] r).length≤1:=by rw[zhh];exact Nat.le_refl 1
theorem yp0 {n:Int}{w:W64}{r:Nat}(h:0≤n∧n≤64 * ((1:Nat):Int)):0≤n∧n≤64 * ((putW [w] r).length:Int):=by rw[zhh];exact h
theorem zw4 (g:Gr)(hg:GrOK g)(S:List (List W64))(hs:ShS g S)(hnw:nwg g=0):DPR 36 [g.av,.rsl 1 (S.map fun ws=>[zek ws])] (retI (zgf g S)):=by
 refine zaf eRg zae Tryz.func36 rfl (by decide) rfl rfl ?_
 have hil:=g.ins.h;have hfew:=hg.few;have hregs:=hg.regs;have hge:=zef hg;rw[hnw] at hge;have hsl:=hs.len;have hS0:∀k (h:k<g.ins.l.length),zbg g.ins.l[k]<0:=fun k h=>by have:=hg.sets _ (List.getElem_mem h);omega
 conv=>whnf
 refine zai eRg zae [1,2,4,11,12] [] 1000 (fun i:{x:Nat×Int // PressN g S x.1 x.2∧x.1≤g.ins.l.length}=>[(13,i64 i.1.1),(5,i64 i.1.2)]) (fun _=>[]) [] (fun i=>g.ins.l.length+1 - i.1.1) (⟨(0,0),PressN.nil,Nat.zero_le _⟩) ?_
 conv=>whnf
 refine⟨?_,fun i=>?_⟩
 · conv => whnf
   (repeat' first|exact True.intro|rfl|apply And.intro )
 have hib:=i.2.2;have hwi:wr .i64 ((i.1.1:Int)+1)=(i.1.1:Int)+1:=wr64 (by omega) (by omega)
 conv=>whnf
 repeat' first
  | (refine Ok3.mk _ (zh9 hs (k:=i.1.1) (by omega) rfl (zzd hs hnw (by omega))) ?_;conv=>whnf)
  | (refine Ok3.mk _ (zh9 hs (k:=i.1.1+1) (by omega) (by rw[wr64 (by omega) (by omega)];omega) (zzd hs hnw (by omega))) ?_;conv=>whnf)
  | (refine Rq.mk (by(first|rfl|((try simp only[rz]);((omega ))))) ?_;conv=>whnf)
  | (refine Br.split (fun h=>?_) (fun h=>?_)<;>(try simp only[bz] at h)<;>first|(exfalso;(exact absurd h (Int.not_le.2 (hS0 _ _))))|(conv=>whnf))
  | (refine Ok3.mk _ (zam (by omega)) ?_;conv=>whnf)
  | (refine zaa rfl (znt (g.ins.l[i.1.1]'(by omega))) ?_;rintro _ rfl<;>conv=>whnf)
  | (refine And.intro (a:=zaw _=true) (by kernel_rfl) (LzK.e ?_);conv=>whnf)
  | (refine zaa rfl ybr ?_;rintro _ rfl;conv=>whnf)
  | (refine zar rfl (zc3 [] (by simp) g.regs (by simp;omega)) ?_;rintro _ rfl;refine⟨_,rfl,?_⟩;conv=>whnf)
  | (refine zaa rfl (zc3 [] (by simp) g.regs (by simp;omega)) ?_;rintro _ rfl;conv=>whnf)
 all_goals first
  | exact⟨_,rfl,by have:=i.2.1;rw[show i.1.1=g.ins.l.length by omega] at this;exact this⟩
  | (have hlt : i.1.1 < g.ins.l.length := by omega
     have hst:=i.2.1.step;refine⟨⟨(i.1.1+1,_),hst,hlt⟩,?_,rfl,by(dsimp only;omega)⟩
     conv=>whnf
     repeat' first|exact True.intro|(refine ygp ?_ ?_;(rw[List.length_map,zkk,zzd hs hnw hib]);(first|(rw[List.length_map,zvg hlt (Int.not_le.2 h),zzd hs hnw hlt])|(rw[List.length_map,zpb hlt h,zzd hs hnw hlt])))|rfl|apply And.intro|(refine cw ?_ ?_ ?_<;>(try dsimp only)<;>omega))
  | skip
theorem zw3 (g:Gr)(hg:GrOK g)(S:List (List W64))(hs:ShS g S)(hnw:nwg g=1):DPR 36 [g.av,.rsl 1 (S.map fun ws=>[zek ws])] (retI (zgf g S)):=by
 refine zaf eRg zae Tryz.func36 rfl (by decide) rfl rfl ?_
 have hil:=g.ins.h;have hfew:=hg.few;have hregs:=hg.regs;have hge:=zef hg;rw[hnw] at hge;have hsl:=hs.len;have hS1:∀k (h:k<g.ins.l.length),zbg g.ins.l[k]<64 * ((1:Nat):Int):=fun k h=>by have:=hg.sets _ (List.getElem_mem h);omega
 have hr1:0≤g.regs∧g.regs≤64 * ((1:Nat):Int):=⟨hregs.1,by omega⟩
 conv=>whnf
 refine zai eRg zae [1,2,4,11,12] [] 1000 (fun i:{x:Nat×Int // PressN g S x.1 x.2∧x.1≤g.ins.l.length}=>[(13,i64 i.1.1),(5,i64 i.1.2)]) (fun _=>[]) [] (fun i=>g.ins.l.length+1 - i.1.1) (⟨(0,0),PressN.nil,Nat.zero_le _⟩) ?_
 conv=>whnf
 refine⟨?_,fun i=>?_⟩
 · conv => whnf
   (repeat' first|exact True.intro|rfl|apply And.intro )
 have hib:=i.2.2;have hwi:wr .i64 ((i.1.1:Int)+1)=(i.1.1:Int)+1:=wr64 (by omega) (by omega)
 conv=>whnf
 repeat' ((first|refine Ok3.mk _ (zh9 hs (k:=i.1.1) (by omega) rfl (zzc hs hnw (by omega))) ?_|refine Ok3.mk _ (zh9 hs (k:=i.1.1+1) (by omega) (by rw[wr64 (by omega) (by omega)];omega) (zzc hs hnw (by omega))) ?_|refine Rq.mk (by(first|rfl|((try simp only[rz]);omega))) ?_|refine Br.split (fun h=>?_) (fun h=>?_)<;>(try simp only[bz] at h)|refine Ok3.mk _ (zam (by omega)) ?_|(refine zaa rfl (znt (g.ins.l[i.1.1]'(by omega))) ?_;rintro _ rfl)|refine And.intro (a:=zaw _=true) (by kernel_rfl) (LzK.e ?_)|refine yc6 rfl (ybs (zki S (i.1.1+1))) rfl rfl ?_|(refine zeb (zqq [(zki S (i.1.1+1))] rfl (zbg (g.ins.l[i.1.1]'(by omega))) ⟨h,hS1 _ _⟩ (Nat.le_refl 1)) rfl rfl rfl zau ?_;rintro _ H' _ ⟨rfl,h0⟩;refine⟨rfl,_,h0,zau,?_⟩)|(refine DC.frzA rfl (zbk (f:=zh6) (n:=19) (l:=[(zki S (i.1.1+1))]) (fun _=>rfl) rfl rfl rfl) ?_;refine zaa rfl (zc3 [(zki S (i.1.1+1))] (Nat.le_refl 1) g.regs hr1) ?_;rintro _ rfl)|(refine DC.frzA rfl (zbk (f:=zh6) (n:=19) (l:=(putW [(zki S (i.1.1+1))] (zbg (g.ins.l[i.1.1]'(by omega))).toNat)) (fun _=>rfl) rfl rfl (zhh (ws:=[(zki S (i.1.1+1))]) (r:=(zbg (g.ins.l[i.1.1]'(by omega))).toNat)).symm) ?_;refine zaa rfl (zc3 (putW [(zki S (i.1.1+1))] (zbg (g.ins.l[i.1.1]'(by omega))).toNat) (yp1 _ _) g.regs (yp0 hr1)) ?_;rintro _ rfl)|(refine zar rfl (zc3 [zki S i.1.1] (by simp) g.regs (by simp;omega)) ?_;rintro _ rfl;refine⟨_,rfl,?_⟩))<;>conv=>whnf)
 all_goals first
  | exact⟨_,rfl,by have:=i.2.1;rw[show i.1.1=g.ins.l.length by omega] at this;exact this⟩
  | (have hlt : i.1.1 < g.ins.l.length := by omega
     have hst:=i.2.1.step;refine⟨⟨(i.1.1+1,_),hst,hlt⟩,?_,rfl,by(dsimp only;omega)⟩
     conv=>whnf
     repeat' first|exact True.intro|(refine ygp ?_ ?_;(rw[List.length_map,zkk,zzc hs hnw hib]);(first|(rw[List.length_map,zvg hlt (Int.not_le.2 h),zzc hs hnw hlt])|(rw[List.length_map,zpb hlt h,zzc hs hnw hlt])))|rfl|apply And.intro|(refine cw ?_ ?_ ?_<;>(try dsimp only)<;>omega))
  | skip
theorem znz (g:Gr)(hg:GrOK g)(S:List (List W64))(hs:ShS g S):DPR 36 [g.av,.rsl 1 (S.map fun ws=>[zek ws])] (retI (zgf g S)):=by
 have:=zkc hg;rcases Nat.lt_or_ge (nwg g) 1 with h|h
 · exact zw4 g hg S hs (by omega)
 · exact zw3 g hg S hs (by omega)
end Go.Ago
end
namespace Go.Ago
open Go.Proofs
attribute [local irreducible] ltI leI eqI eqS shrI wr inB mmI comp DC DP DW DV
attribute [local irreducible] zcs bitW putW zgz orW za3 inm zas zbn zbg famS zdp muS zgg zc0 zki
structure ShC (g:Gr)(C:List (List W64)):Prop where
 len:C.length=g.regs.toNat
 row:∀ws∈C,ws.length=nwg g
def putC (C:List (List W64))(k r:Nat):List (List W64):=C.set k (putW (rowS C k) r)
theorem zis {g:Gr}{C:List (List W64)}(h:ShC g C){k:Nat}(hk:k<g.regs.toNat):(rowS C k).length=nwg g:=by
 have hlt:k<C.length:=by rw[h.len];omega
 rw[rowS,List.getD,List.getElem?_eq_getElem hlt,Option.getD_some];exact h.row _ (List.getElem_mem hlt)
theorem ShC.put {g:Gr}{C:List (List W64)}(h:ShC g C){k r:Nat}(hk:k<g.regs.toNat):ShC g (putC C k r):=by
 refine⟨by rw[putC,List.length_set,h.len],fun ws hw=>?_⟩
 rcases List.mem_or_eq_of_mem_set hw with hw|rfl
 · exact h.row _ hw
 · rw[zhh,zis h hk]
theorem zuw {g:Gr}{C:List (List W64)}(h:ShC g C){k j r:Nat}(hk:k<g.regs.toNat):rowS (putC C k r) j=if j=k then putW (rowS C k) r else rowS C j:=by
 have hlt:k<C.length:=by rw[h.len];omega
 by_cases hj:j=k
 · subst hj;simp[rowS,putC,List.getD,hlt]
 · simp[rowS,putC,List.getD,List.getElem?_set_ne (Ne.symm hj),hj]
theorem zm2 {g:Gr}(hg:GrOK g){C:List (List W64)}(h:ShC g C){k j r s:Nat}(hk:k<g.regs.toNat)(hr:r<g.regs.toNat)(hb:bitW (rowS C j) s=true):bitW (rowS (putC C k r) j) s=true:=by
 rw[zuw h hk]
 by_cases hj:j=k
 · subst hj
   rw[if_pos rfl,zf8 (by rw[zis h hk];have:=zef hg;omega),hb,Bool.or_true]
 · rw[if_neg hj];exact hb
theorem yfi {g:Gr}(hg:GrOK g){C:List (List W64)}(h:ShC g C){k r:Nat}(hk:k<g.regs.toNat)(hr:r<g.regs.toNat):bitW (rowS (putC C k r) k) r=true:=by
 rw[zuw h hk,if_pos rfl,zf8 (by rw[zis h hk];have:=zef hg;omega)]
 simp
theorem zv4 {C:List (List W64)}{k j r:Nat}(hk:k<C.length):famS (putC C k r) j=if j=k then some (setO (putW (rowS C k) r)) else famS C j:=by
 rw[zjc,zjc]
 by_cases hj:j=k
 · subst hj;rw[if_pos rfl,dif_pos (by simpa[putC] using hk)];simp[putC]
 · rw [if_neg hj]
   by_cases hl:j<C.length
   · rw[dif_pos (by simpa[putC] using hl),dif_pos hl];simp[putC,List.getElem_set_ne (Ne.symm hj)]
   · rw[dif_neg (by simpa[putC] using hl),dif_neg hl]
def ClAt (g:Gr)(S C:List (List W64))(k r:Nat):Prop:=∀h:k<g.ins.l.length,0≤zbg g.ins.l[k]→zdn g.ins.l[k]→(r:Int)<g.regs→bitW (rowS S (k+1)) r=true→(r:Int)≠zbg g.ins.l[k]→bitW (rowS C (zbg g.ins.l[k]).toNat) r=true
def ClN (g:Gr)(S C:List (List W64))(m:Nat):Prop:=∀k r,k<m→ClAt g S C k r
structure CsS (g:Gr)(S:List (List W64)) where
 m:Nat
 C:List (List W64)
 hm:m≤g.ins.l.length
 sh:ShC g C
 cl:ClN g S C m
structure CjS (g:Gr)(S:List (List W64))(m d:Nat)(L:List Int) where
 j:Nat
 C:List (List W64)
 hj:j≤L.length
 sh:ShC g C
 cl:ClN g S C m
 dn:∀r∈L.take j,r≠(d:Int)→bitW (rowS C d) r.toNat=true
theorem ClN.put {g:Gr}(hg:GrOK g){S C:List (List W64)}{m:Nat}(hs:ShC g C)(h:ClN g S C m){k r:Nat}(hk:k<g.regs.toNat)(hr:r<g.regs.toNat):ClN g S (putC C k r) m:=
 fun k' r' hk' hlt h1 h2 h3 h4 h5=>zm2 hg hs hk hr (h k' r' hk' hlt h1 h2 h3 h4 h5)
theorem CjS.skip {g:Gr}{S:List (List W64)}{m d:Nat}{L:List Int}(x:CjS g S m d L)(hj:x.j<L.length)(hr:L[x.j]=(d:Int)):∃y:CjS g S m d L,y.j=x.j+1∧y.C=x.C:=
 ⟨⟨x.j + 1, x.C, hj, x.sh, x.cl, fun r h hne => by
   rw[List.take_succ_eq_append_getElem hj] at h;rcases List.mem_append.1 h with h|h
   · exact x.dn r h hne
   · exact absurd ((List.mem_singleton.1 h).trans hr) hne⟩,rfl,rfl⟩
theorem CjS.put {g:Gr}(hg:GrOK g){S:List (List W64)}{m d:Nat}{L:List Int}(x:CjS g S m d L)(hj:x.j<L.length)(hd:d<g.regs.toNat)(hr:0≤L[x.j]∧L[x.j]<g.regs) :
 ∃y:CjS g S m d L,y.j=x.j+1∧y.C=putC (putC x.C d (L[x.j]).toNat) (L[x.j]).toNat d:=by
 have hr2:(L[x.j]).toNat<g.regs.toNat:=by omega
 have s1:=x.sh.put (r:=(L[x.j]).toNat) hd;refine⟨⟨x.j+1,_,hj,s1.put hr2,(x.cl.put hg x.sh hd hr2).put hg s1 hr2 hd,fun r h hne=>?_⟩,rfl,rfl⟩
 rw[List.take_succ_eq_append_getElem hj] at h;refine zm2 hg s1 hr2 hd ?_;rcases List.mem_append.1 h with h|h
 · exact zm2 hg x.sh hd hr2 (x.dn r h hne)
 · obtain rfl := List.mem_singleton.1 h
   exact yfi hg x.sh hd hr2
theorem CsS.skip {g:Gr}{S:List (List W64)}(x:CsS g S)(hlt:x.m<g.ins.l.length)(h:¬(0≤zbg g.ins.l[x.m]∧zdn g.ins.l[x.m])):∃y:CsS g S,y.m=x.m+1∧y.C=x.C:=
 ⟨⟨x.m + 1, x.C, hlt, x.sh, fun k r hk hl h1 h2 => by
   rcases Nat.lt_or_ge k x.m with h3|h3
   · exact x.cl k r h3 hl h1 h2
   · obtain rfl : k = x.m := by omega
     exact absurd ⟨h1,h2⟩ h⟩,rfl,rfl⟩
theorem CjS.out {g:Gr}{S:List (List W64)}{m d:Nat}(hlt:m<g.ins.l.length)(hd:zbg g.ins.l[m]=(d:Int))(x:CjS g S m d (za3 (rowS S (m+1)) g.regs.toNat))(hj:(za3 (rowS S (m+1)) g.regs.toNat).length≤x.j):∃y:CsS g S,y.m=m+1∧y.C=x.C:=
 ⟨⟨m + 1, x.C, hlt, x.sh, fun k r hk hl h1 h2 h3 h4 h5 => by
   rcases Nat.lt_or_ge k m with h6|h6
   · exact x.cl k r h6 hl h1 h2 h3 h4 h5
   · obtain rfl : k = m := by omega
     have hm:(r:Int)∈(za3 (rowS S (k+1)) g.regs.toNat).take x.j:=by
      rw[List.take_of_length_le hj];exact mem_listW.2 ⟨r,rfl,by omega,h4⟩
     have:=x.dn r hm (by rw[← hd];exact h5)
     rw[hd]
     simpa using this⟩,rfl,rfl⟩
theorem zy8 {C:List (List W64)}{d r j:Nat}{o:AObj}{ρ:Nat→Nat}{nl:Nat}{T:zah}(hd:d<C.length)(hr:r<C.length)(hne:r≠d)(hj:j<famN)(h:famS (putC (putC C d r) r d) j=some o) :
 gt3 (inm fA j) (fun x=>x=o.ren ρ∧o.lt nl) (.put (inm fA r) (some (setO (putW (rowS C r) d))) (.put (inm fA d) (some (setO (putW (rowS C d) r))) (.fam fA famN (famS C) T))):=by
 have hlt:r<(putC C d r).length:=by simpa[putC] using hr
 have e:rowS (putC C d r) r=rowS C r:=by simp[rowS,putC,List.getD,List.getElem?_set_ne (Ne.symm hne)]
 rw[zv4 hlt,e,zv4 hd] at h
 by_cases h1:j=r
 · subst h1;rw[if_pos rfl] at h;cases h;exact zvw ⟨zfx,zcb⟩
 · rw [if_neg h1] at h
   refine zvx h1 ?_
   by_cases h2:j=d
   · subst h2;rw[if_pos rfl] at h;cases h;exact zvw ⟨zfx,zcb⟩
   · rw [if_neg h2] at h
     exact zvx h2 (zbo hj h (zbb h))
theorem zc9 {ws:List W64}{n:Int}{r:Int}(h:r∈za3 ws n.toNat):0≤r∧r<n:=by
 obtain⟨k,rfl,h1,_⟩:=mem_listW.1 h;omega
theorem zzb {n nw:Nat}{x:Int}(hx:0≤x∧x<(n:Int)):(zc0 n nw)[0+x.toNat]? = some [AV.slc (inm fA x.toNat) 0 nw 1]:=ze8 (by omega) (by omega)
theorem ym2 {g:Gr}(hg:GrOK g){C:List (List W64)}(hs:ShC g C){T:zah}:snap (.fam fA famN (famS C) (.put 7 (some (.arr 1 (zc0 g.regs.toNat (nwg g)))) T)) 20 (.slc 7 0 g.regs.toNat 1)=some (.rsl 1 (C.map fun ws=>[zek ws])):=by
 have e9:famN=1048576:=rfl;have hr:=hg.regs;have h7:(Tr.fam fA famN (famS C) (.put 7 (some (.arr 1 (zc0 g.regs.toNat (nwg g)))) T)).get 7=some (.arr 1 (zc0 g.regs.toNat (nwg g))):=rfl;have hlen:(zc0 g.regs.toNat (nwg g)).length=g.regs.toNat:=by with_unfolding_all simp[zc0]
 have h3:List.take g.regs.toNat (List.drop 0 (zc0 g.regs.toNat (nwg g)))=zc0 g.regs.toNat (nwg g):=by rw[List.drop_zero];exact List.take_of_length_le (by omega)
 have h5:mapO (mapO (snap (.fam fA famN (famS C) (.put 7 (some (.arr 1 (zc0 g.regs.toNat (nwg g)))) T)) 19)) (zc0 g.regs.toNat (nwg g))=some (C.map fun ws=>[zek ws]):=by
  have hr:C.map (fun ws=>[zek ws])=(List.range g.regs.toNat).map fun j=>[zek (rowS C j)]:=by
   refine List.ext_getElem (by simp[hs.len]) fun j h1 h2=>?_
   have:j<C.length:=by simpa using h1
   simp[rowS,List.getD,this]
  rw[hr,show zc0 g.regs.toNat (nwg g)=(List.range g.regs.toNat).map fun j=>[AV.slc (inm fA j) 0 (nwg g) 1] by with_unfolding_all rfl]
  refine zs7 fun j hj=>?_
  have hj:=List.mem_range.1 hj;have hget:(Tr.fam fA famN (famS C) (.put 7 (some (.arr 1 (zc0 g.regs.toNat (nwg g)))) T)).get (inm fA j)=some (setO (rowS C j)):=(zdx (by omega)).trans (zce (by rw[hs.len];omega))
  rw[show zc0 g.regs.toNat (nwg g)=(List.range g.regs.toNat).map fun j=>[AV.slc (inm fA j) 0 (nwg g) 1] by with_unfolding_all rfl] at hget
  have:=zbk (k:=inm fA j) (n:=18) (f:=zh6) (l:=rowS C j) (m:=nwg g) (sz:=1) (fun _=>rfl) hget rfl (zis hs hj).symm
  exact zab this rfl
 exact zky (n:=19) h7 (by rw[hlen];omega) (by rw[h3];exact h5)
theorem ynj {g:Gr}(hg:GrOK g){C:List (List W64)}(hC:ShC g C){k:Nat}{r:Int}(hk:k<g.regs.toNat)(hr:0≤r∧r<g.regs):DC Tryz.prog ERg 77 [.slc 0 0 (nwg g) 1,i64 r] (.put 0 (some (setO (rowS C k))) .nil) 1 (fun ae H' _=>ae = .ret (.tup [])∧H'.get 0=some (setO (putW (rowS C k) r.toNat))):=
 zqq (rowS C k) (zis hC hk) r ⟨hr.1,by have:=zef hg;omega⟩ (zkc hg)
theorem lenC {g:Gr}{C:List (List W64)}(hC:ShC g C){k:Nat}(hk:k<g.regs.toNat):k<C.length:=by rw[hC.len];exact hk
theorem rngN {ws:List W64}{n r:Int}(h:r∈za3 ws n.toNat):r.toNat<n.toNat:=by have:=zc9 h;omega
theorem rngF {g:Gr}(hg:GrOK g){k:Nat}(hk:k<g.regs.toNat):k<famN:=by have:=hg.regs;have e:famN=1048576:=rfl;omega
theorem zt8 {a b:Int}(ha:0≤a)(hb:0≤b)(h:¬a=b):a.toNat≠b.toNat:=by omega
theorem yng {g:Gr}{k:Nat}(h:k=g.regs.toNat):ShC g (repZ g k):=⟨by simp[h],fun ws hw=>by rw[List.eq_of_mem_replicate hw];simp⟩
theorem ypz {g:Gr}(hg:GrOK g){k:Nat}(h:k<g.ins.l.length)(h0:0≤zbg g.ins.l[k]):0≤zbg g.ins.l[k]∧zbg g.ins.l[k]<(g.regs.toNat:Int):=by
 have:=hg.sets _ (List.getElem_mem h);have:=hg.regs;omega
theorem ydz {n nw k m:Nat}{l:List (Nat×Nat)}(hA:Nat.ble (fA+famN) m=true)(hn:n≤1001)(hk:n≤k):AObj.arr 1 (zgg n nw k)=(AObj.arr 1 (zc0 n nw)).ren (renF m fA (inm fA) l):=by
 rw[znw hk];exact zbi hA hn
theorem zrb {A i n:Nat}{v:Option AObj}{t:zah}{o:Option AObj}(hi:i<famN)(h:(Nat.blt n A || Nat.ble (A+famN) n)=true)(e:t.get n=o):(Tr.put (inm A i) v t).get n=o:=by
 have:Nat.beq n (inm A i)=false:=by
  cases e:Nat.beq n (inm A i) with
  | false=>rfl
  | true =>
    have:=Nat.eq_of_beq_eq_true e;rw[Bool.or_eq_true] at h;rcases h with h|h<;>have h:=Nat.le_of_ble_eq_true h<;>unfold inm at this<;>omega
 rw[Tr.get,this];exact e
theorem zn7 {g:Gr}(hr:0≤g.regs∧g.regs≤64){ws:List W64}{r:Int}(h:r∈za3 ws g.regs.toNat):0≤r∧r<(g.regs.toNat:Int):=by have:=zc9 h;omega
theorem znq {x:Int}{n:Nat}(h:0≤x∧x<(n:Int)):x.toNat<n:=by omega
theorem ygr {x:Int}{n:Nat}(h:0≤x∧x<(n:Int)):inB x n=true:=by rw[zhw];exact h
theorem ym6 {g:Gr}(hg:GrOK g){k:Nat}(h:k<g.ins.l.length)(h0:0≤zbg g.ins.l[k]∧zbg g.ins.l[k]<(g.regs.toNat:Int)):0≤zbg g.ins.l[k]∧zbg g.ins.l[k]<g.regs:=by
 have:=hg.regs;omega
theorem zrr (g:Gr)(hg:GrOK g):DPR 51 [g.av] (fun ae=>∃C S,ae = .ret (.rsl 1 (C.map fun ws=>[zek ws]))∧ShC g C∧LiveOK g S∧ClN g S C g.ins.l.length):=by
 refine zaf eRg zae Tryz.func51 rfl (by decide) rfl rfl ?_
 have hil:=g.ins.h;have hF:famN=1048576:=rfl;have hfew:=hg.few;have hregs:=hg.regs;have hnw:=zkc hg;have hge:=zef hg
 conv=>whnf
 repeat' ((first|refine Rq.mk (zxf (l':=g.regs) rfl rfl (by omega) (by decide) rfl) ?_|(refine zaa rfl (zvo g hg) ?_;rintro _ ⟨S,rfl,hS⟩))<;>conv=>whnf)
 have hsl:=hS.len;refine zcr eRg zae [1,2,3,4,17] [7] 2000000 fA (fun i:{i:Nat // i≤g.regs.toNat}=>[(18,i64 i.1)]) (fun i=>[(7,.arr 1 (zgg g.regs.toNat (nwg g) i.1))]) (fun i=>famS (repZ g i.1)) [] (fun i=>g.regs.toNat+1 - i.1) (⟨0,Nat.zero_le _⟩) ?_
 conv=>whnf
 refine⟨⟨_,FamW.grow (k:=0) (NEW:=2000022) rfl rfl rfl rfl ?_ ?_ rfl (fun j o _ _ h=>(zk5 h).elim) (fun o h=>(zk5 h).elim) rfl⟩,fun i=>?_⟩
 · (repeat' (first|exact zbe|(refine za5 (x:=?_) ?_ ?_ ?_ ?_;rotate_left;exact rfl;((conv=>rhs;whnf)<;>(first|(refine zdq (zax ?_);exact rfl)|(refine zec (zax ?_);exact rfl)|rfl ));(first|(refine zb5 ?_;exact rfl)|(refine zcl ?_;exact rfl)|rfl))))
 · (repeat' (first|exact za6|(refine za0 (x:=?_) ?_ ?_ ?_ ?_ ?_ ?_;rotate_left;exact rfl;exact rfl;exact rfl;(first|(refine zqf ?_;rfl)|rfl);(first|(refine zlf ?_ ?_<;>first|rfl|omega)|rfl))))
 conv=>whnf
 repeat' ((first|refine Rq.mk (by(first|rfl|((try simp only[rz]);omega))) ?_|refine Br.split (fun h=>?_) (fun h=>?_)<;>(try simp only[bz] at h)|refine yc6 rfl (zl6 g.regs hregs) zjs rfl ?_|refine zap (zus (by omega)) ?_)<;>conv=>whnf)
 · have hi : i.1 < g.regs.toNat := by omega
   refine⟨⟨i.1+1,hi⟩,_,FamW.grow (k:=i.1) (NEW:=2000022) rfl rfl rfl rfl ?_ ?_ rfl ?_ ?_ rfl,rfl,?_⟩
   · (repeat' (first|exact zbe|(refine za5 (x:=?_) ?_ ?_ ?_ ?_;rotate_left;exact rfl;((conv=>rhs;whnf)<;>(first|(refine zdq (zax ?_);exact rfl)|(refine zec (zax ?_);exact rfl)|(refine congrArg (AV.int IntKind.i64) ?_;(try dsimp only);refine(wr64 (by omega) (by omega)).trans ?_;omega)));(first|(refine zb5 ?_;exact rfl)|(refine zcl ?_;exact rfl)|rfl))))
   · (repeat' (first|exact za6|(refine za0 (x:=?_) ?_ ?_ ?_ ?_ ?_ ?_;rotate_left;exact rfl;exact rfl;exact rfl;(first|(refine zql ?_ ?_ ?_ ?_;exact rfl;omega;(show i.1<_;omega);simp)|rfl);(first|(refine zlf ?_ ?_<;>first|rfl|omega)|rfl))))
   · intro j o hj hjk hg0
     have hg1:famS (repZ g (i.1+1)) j=some o:=hg0;rw[zu0 hjk] at hg1
     (repeat' first|exact zbo hj hg1 (zbb hg1)|(refine zeg hj ?_ ?_;(rfl ))|(refine yay ?_ ?_;(rfl )))
   · intro o ho
     obtain rfl:=yge ho;exact zn9 (o:=setO (zcc (nwg g))) rfl ⟨zfx,zcb⟩
   · dsimp only;omega
 have hfull:g.regs.toNat≤i.1:=by omega
 refine zcr eRg zae [1,2,3,4,29,30] [7] 10000 fA (fun x:CsS g S=>[(31,i64 x.m)]) (fun x=>[(7,.arr 1 (zc0 g.regs.toNat (nwg g)))]) (fun x=>famS x.C) [] (fun x=>g.ins.l.length+1 - x.m) (⟨0,repZ g i.1,Nat.zero_le _,yng (by have:=i.2;omega),fun k r h=>absurd h (Nat.not_lt_zero _)⟩) ?_
 conv=>whnf
 refine⟨⟨_,FamW.inner rfl rfl (by(repeat' (first|exact zbe|(refine za5 (x:=?_) ?_ ?_ ?_ ?_;rotate_left;exact rfl;((conv=>rhs;whnf)<;>(first|(refine zdq (zax ?_);exact rfl)|(refine zec (zax ?_);exact rfl)|rfl ));(first|(refine zb5 ?_;exact rfl)|(refine zcl ?_;exact rfl)|rfl))))) (by(repeat' (first|exact za6|(refine za0 (x:=?_) ?_ ?_ ?_ ?_ ?_ ?_;rotate_left;exact rfl;exact rfl;exact rfl;(first|(refine ydz ?_ ?_ hfull<;>first|rfl|omega)|rfl);(first|(refine zbt ?_ ?_<;>first|rfl|omega)|rfl))))) rfl (by(intro j o hj hg0;(repeat' exact zbo hj hg0 (zbb hg0) ))) rfl⟩,fun x=>?_⟩
 have hxm:=x.hm;have hwx:wr .i64 ((x.m:Int)+1)=(x.m:Int)+1:=wr64 (by omega) (by omega)
 conv=>whnf
 repeat' ((first|refine Ok3.mk _ (zh9 hS.toShS (k:=x.m+1) (by omega) (by rw[wr64 (by omega) (by omega)];omega) rfl) ?_|refine Rq.mk (by(first|rfl|((try simp only[rz]);omega))) ?_|refine Br.split (fun h=>?_) (fun h=>?_)<;>(try simp only[bz] at h)|refine Ok3.mk _ (zam (by omega)) ?_|(refine zaa rfl (znt (g.ins.l[x.m]'(by omega))) ?_;rintro _ rfl)|(refine zaa rfl (ztk (g.ins.l[x.m]'(by omega))) ?_;rintro _ (⟨rfl,hf⟩|⟨rfl,hf⟩))|refine And.intro (a:=zaw _=true) (by kernel_rfl) (LzK.e ?_)|(refine zar rfl (zc3 (rowS S (x.m+1)) (by rw[zbd hS.toShS (by omega)];exact hnw) g.regs (by rw[zbd hS.toShS (by omega)];omega)) ?_;rintro _ rfl;refine⟨_,rfl,?_⟩))<;>conv=>whnf)
 all_goals first
  | (generalize hg2 : snap _ 20 _ = rr
     obtain rfl:=hg2.symm.trans (ym2 hg x.sh)
     conv=>whnf
     exact⟨x.C,S,rfl,x.sh,hS,by have:=x.cl;rw[show x.m=g.ins.l.length by omega] at this;exact this⟩)
  | (have hlt : x.m < g.ins.l.length := by omega
     obtain⟨y,hy1,hy2⟩:=x.skip hlt (by first|exact fun hh=>absurd hh.1 (Int.not_le.2 (by assumption))|exact fun hh=>absurd hh.2 (by assumption))
     refine⟨y,_,FamW.inner rfl rfl (by(repeat' (first|exact zbe|(refine za5 (x:=?_) ?_ ?_ ?_ ?_;rotate_left;exact rfl;((conv=>rhs;whnf)<;>(first|(refine zdq (zax ?_);exact rfl)|(refine zec (zax ?_);exact rfl)|(refine congrArg (AV.int IntKind.i64) ?_;(try dsimp only);refine(wr64 (by omega) (by omega)).trans ?_;omega)));(first|(refine zb5 ?_;exact rfl)|(refine zcl ?_;exact rfl)|rfl))))) (by(repeat' (first|exact za6|(refine za0 (x:=?_) ?_ ?_ ?_ ?_ ?_ ?_;rotate_left;exact rfl;exact rfl;exact rfl;(first|(refine zbi ?_ ?_<;>first|rfl|omega)|rfl);(first|(refine zbt ?_ ?_<;>first|rfl|omega)|rfl))))) rfl (by(intro j o hj hg0;rw[hy2] at hg0;(repeat' first|exact zbo hj hg0 (zbb hg0)|(refine zeg hj ?_ ?_;(rfl )) ))) rfl,rfl,?_⟩
     show g.ins.l.length+1 - y.m<g.ins.l.length+1 - x.m;omega)
  | skip
 have hlt:x.m<g.ins.l.length:=by omega
 have hdr:=ypz hg hlt (by omega)
 have hd:zbg g.ins.l[x.m]=((zbg g.ins.l[x.m]).toNat:Int):=by omega
 refine zcr eRg zae [1,2,3,4,6,7,8,29,30,31,32,33,34,35,36,37,38,39,40,41,42,43,44,45,46,47,48,49,50,51,52,53] [] 10000 fA (fun y:CjS g S x.m (zbg (g.ins.l[x.m]'(by omega))).toNat (za3 (rowS S (x.m+1)) g.regs.toNat)=>[(54,i64 y.j)]) (fun y=>[]) (fun y=>famS y.C) [] (fun y=>(za3 (rowS S (x.m+1)) g.regs.toNat).length+1 - y.j) (⟨0,x.C,Nat.zero_le _,x.sh,x.cl,by simp⟩) ?_
 conv=>whnf
 refine⟨⟨_,FamW.inner rfl rfl (by(repeat' (first|exact zbe|(refine za5 (x:=?_) ?_ ?_ ?_ ?_;rotate_left;exact rfl;((conv=>rhs;whnf)<;>(first|(refine zdq (zax ?_);exact rfl)|(refine zec (zax ?_);exact rfl)|rfl ));(first|(refine zb5 ?_;exact rfl)|(refine zcl ?_;exact rfl)|rfl))))) (by(repeat' (first|exact za6|(refine za0 (x:=?_) ?_ ?_ ?_ ?_ ?_ ?_;rotate_left;exact rfl;exact rfl;exact rfl;(first|(refine zbi ?_ ?_<;>first|rfl|omega)|rfl);(first|(refine zbt ?_ ?_<;>first|rfl|omega)|rfl))))) rfl (by(intro j o hj hg0;(repeat' first|exact zbo hj hg0 (zbb hg0)|(refine zeg hj ?_ ?_;(rfl )) ))) rfl⟩,fun y=>?_⟩
 have hyj:=y.hj;have hll:=@zep (rowS S (x.m+1)) g.regs.toNat
 conv=>whnf
 repeat' ((first|(refine zxi (A:=fA) ?_ ?_;exact rfl)|refine Rq.mk (ygr hdr) ?_|refine Rq.mk (ygr (zn7 hregs (List.getElem_mem _))) ?_|refine Rq.mk (by(first|rfl|((try simp only[rz]);omega))) ?_|refine Br.split (fun h=>?_) (fun h=>?_)<;>(try simp only[bz] at h)|refine Ok3.mk _ (zam (by omega)) ?_|refine zap (zzb hdr) ?_|refine zap (zzb (zn7 hregs (List.getElem_mem _))) ?_|(refine zeb (k:=inm fA (zbg (g.ins.l[x.m]'(by omega))).toNat) (ynj hg y.sh (znq hdr) (zc9 (List.getElem_mem _))) rfl rfl ((zdx (rngF hg (znq hdr))).trans (zce (lenC y.sh (znq hdr)))) zau ?_;rintro _ H' _ ⟨rfl,h0⟩;refine⟨rfl,_,h0,zau,?_⟩)|(refine zeb (k:=inm fA ((za3 (rowS S (x.m+1)) g.regs.toNat)[y.j]'(by omega)).toNat) (ynj hg y.sh (rngN (List.getElem_mem _)) (ym6 hg hlt hdr)) rfl rfl (zv0 (zt8 (zc9 (List.getElem_mem _)).1 hdr.1 h) ((zdx (rngF hg (rngN (List.getElem_mem _)))).trans (zce (lenC y.sh (rngN (List.getElem_mem _)))))) zau ?_;rintro _ H' _ ⟨rfl,h0⟩;refine⟨rfl,_,h0,zau,?_⟩))<;>conv=>whnf)
 all_goals first
  | (have hjl : y.j < (za3 (rowS S (x.m + 1)) g.regs.toNat).length := by omega
     have hne:¬(za3 (rowS S (x.m+1)) g.regs.toNat)[y.j]=zbg g.ins.l[x.m]:=h;have hrr:=zc9 (List.getElem_mem hjl);obtain⟨y1,hy1,hy2⟩:=y.put hg hjl (znq hdr) hrr;refine⟨y1,_,FamW.inner rfl rfl (by(repeat' (first|exact zbe|(refine za5 (x:=?_) ?_ ?_ ?_ ?_;rotate_left;exact rfl;((conv=>rhs;whnf)<;>(first|(refine zdq (zax ?_);exact rfl)|(refine zec (zax ?_);exact rfl)|rfl|(refine congrArg (AV.int IntKind.i64) ?_;(try dsimp only);refine(wr64 (by omega) (by omega)).trans ?_;omega)));(first|(refine zb5 ?_;exact rfl)|(refine zcl ?_;exact rfl)|rfl))))) (by(repeat' (first|exact za6|(refine za0 (x:=?_) ?_ ?_ ?_ ?_ ?_ ?_;rotate_left;exact rfl;exact rfl;refine zrb ?_ ?_ (zrb ?_ ?_ ?_);exact rngF hg (rngN (List.getElem_mem hjl));exact rfl;exact rngF hg (znq hdr);exact rfl;exact rfl;(first|(refine zbi ?_ ?_<;>first|rfl|omega)|rfl);(first|(refine zbt ?_ ?_<;>first|rfl|omega)|rfl))))) rfl (by(intro j o hj hg0;rw[hy2] at hg0;exact zy8 (lenC y.sh (znq hdr)) (lenC y.sh (rngN (List.getElem_mem _))) (zt8 hrr.1 hdr.1 hne) hj hg0)) rfl,rfl,?_⟩
     show _+1 - y1.j<_+1 - y.j;omega)
  | (have hjl : y.j < (za3 (rowS S (x.m + 1)) g.regs.toNat).length := by omega
     have heq:(za3 (rowS S (x.m+1)) g.regs.toNat)[y.j]=zbg g.ins.l[x.m]:=h;obtain⟨y1,hy1,hy2⟩:=y.skip hjl (heq.trans hd);refine⟨y1,_,FamW.inner rfl rfl (by(repeat' (first|exact zbe|(refine za5 (x:=?_) ?_ ?_ ?_ ?_;rotate_left;exact rfl;((conv=>rhs;whnf)<;>(first|(refine zdq (zax ?_);exact rfl)|(refine zec (zax ?_);exact rfl)|rfl|(refine congrArg (AV.int IntKind.i64) ?_;(try dsimp only);refine(wr64 (by omega) (by omega)).trans ?_;omega)));(first|(refine zb5 ?_;exact rfl)|(refine zcl ?_;exact rfl)|rfl))))) (by(repeat' (first|exact za6|(refine za0 (x:=?_) ?_ ?_ ?_ ?_ ?_ ?_;rotate_left;exact rfl;exact rfl;exact rfl;(first|(refine zbi ?_ ?_<;>first|rfl|omega)|rfl);(first|(refine zbt ?_ ?_<;>first|rfl|omega)|rfl))))) rfl (by(intro j o hj hg0;rw[hy2] at hg0;(repeat' exact zbo hj hg0 (zbb hg0) ))) rfl,rfl,?_⟩
     show _+1 - y1.j<_+1 - y.j;omega)
  | (obtain ⟨y1, hy1, hy2⟩ := y.out hlt hd (by omega)
     refine⟨y1,_,FamW.inner rfl rfl (by(repeat' (first|exact zbe|(refine za5 (x:=?_) ?_ ?_ ?_ ?_;rotate_left;exact rfl;((conv=>rhs;whnf)<;>(first|(refine zdq (zax ?_);exact rfl)|(refine zec (zax ?_);exact rfl)|(refine congrArg (AV.int IntKind.i64) ?_;(try dsimp only);refine(wr64 (by omega) (by omega)).trans ?_;omega)));(first|(refine zb5 ?_;exact rfl)|(refine zcl ?_;exact rfl)|rfl))))) (by(repeat' (first|exact za6|(refine za0 (x:=?_) ?_ ?_ ?_ ?_ ?_ ?_;rotate_left;exact rfl;exact rfl;exact rfl;(first|(refine zbi ?_ ?_<;>first|rfl|omega)|rfl);(first|(refine zbt ?_ ?_<;>first|rfl|omega)|rfl))))) rfl (by(intro j o hj hg0;rw[hy2] at hg0;(repeat' exact zbo hj hg0 (zbb hg0) ))) rfl,rfl,?_⟩
     show _+1 - y1.m<_+1 - x.m;omega)
end Go.Ago
