/-
  Part B16: lemmas, each with its own conditions.
-/
import Derived.Test.YthaolifcglpkdaaGreatDoorB15
set_option maxRecDepth 100000
set_option maxHeartbeats 0
set_option linter.all false
namespace Go.Ago
open Go.Proofs List Nat Tryz
def C4 (T:List (Int×Bool×List Int))(k:Int):Bool×List Int:=match T with
 | []=>(false,[])
 | (a, b) :: T => match decide (a = k) with
   | true=>b
   | false=>C4 T k
def fI (T:List (Int×Bool×List Int))(k:Int):AV := .agg (au (C4 T k).1 (C4 T k).2)
theorem fU (T:List (Int×Bool×List Int))(k:Int):ju (fI T k):=⟨_,_,rfl⟩
def oN (T:List (Int×Bool))(k:Int):Bool:=match T with
 | []=>false
 | (a, b) :: T => match decide (a = k) with
   | true=>b
   | false=>oN T k
theorem DP.dh {g:FuncId}{args:List AV}{v:AV}(h:(wR (xy []) 40).P g args (fun ae=>ae = .ret v)=(AE.ret v=AE.ret v)):af g args (fun ae=>ae = .ret v):=uO (T:=[]) (n:=40) (fun _ h=>by cases h) h
theorem DP.Wg {g:FuncId}{args:List AV}{b:Bool}(h:af g args (fun ae=>ae = .ret (.agg [.bool b,.ai]))):af g args (fun ae=>ae = .ret (.agg (au b []))):=
 h.oG fun _ e=>⟨_,.agg (au b []),e,.inl (.inr ⟨_,_,rfl,rfl,.r,.n,trivial⟩),rfl⟩
theorem Pf:af 167 [.agg (au true []),.agg (au true [])] (fun ae=>ae = .ret (.agg (au true []))):=DP.Wg (DP.dh aG)
theorem Pm:af 168 [.agg (au true []),.agg (au true [])] (fun ae=>ae = .ret (.bool true)):=DP.dh aG
theorem Ps:af 167 [.agg (au true []),.agg (au true [0])] (fun ae=>ae = .ret (.agg (au true [0]))):=DP.dh aG
theorem PE:af 168 [.agg (au true [0]),.agg (au true [])] (fun ae=>ae = .ret (.bool false)):=DP.dh aG
theorem AL:af 65 [bJ [] true [],i64 0] (fun ae=>ae = .ret (.agg (au true []))):=DP.dh aG
theorem AM:af 65 [bJ [(0,.agg (au false [0]))] true [0],i64 0] (fun ae=>ae = .ret (.agg (au false [0]))):=DP.dh aG
theorem Fu:af 167 [.agg (au true []),.agg (au false [0])] (fun ae=>ae = .ret (.agg (au false [0]))):=DP.dh aG
theorem Fv:af 168 [.agg (au false [0]),.agg (au true [])] (fun ae=>ae = .ret (.bool false)):=DP.dh aG
theorem PF:af 167 [.agg (au true []),.agg (au true [0,1])] (fun ae=>ae = .ret (.agg (au true [0,1]))):=DP.dh aG
theorem PG:af 168 [.agg (au true [0,1]),.agg (au true [])] (fun ae=>ae = .ret (.bool false)):=DP.dh aG
theorem AH:af 65 [bJ [(0,.agg (au false [0])),(1,.agg (au false [1]))] true [0,1],i64 0] (fun ae=>ae = .ret (.agg (au false [0]))):=DP.dh aG
theorem Fi:af 65 [bJ [] true [],i64 1] (fun ae=>ae = .ret (.agg (au true []))):=DP.dh aG
theorem AI:af 65 [bJ [(0,.agg (au false [0])),(1,.agg (au false [1]))] true [0,1],i64 1] (fun ae=>ae = .ret (.agg (au false [1]))):=DP.dh aG
theorem Fj:af 167 [.agg (au true []),.agg (au false [1])] (fun ae=>ae = .ret (.agg (au false [1]))):=DP.dh aG
theorem Fk:af 168 [.agg (au false [1]),.agg (au true [])] (fun ae=>ae = .ret (.bool false)):=DP.dh aG
theorem Pg:af 167 [.agg (au true []),.agg (au true [0,1,2])] (fun ae=>ae = .ret (.agg (au true [0,1,2]))):=DP.dh aG
theorem Ph:af 168 [.agg (au true [0,1,2]),.agg (au true [])] (fun ae=>ae = .ret (.bool false)):=DP.dh aG
theorem AJ:af 65 [bJ [(0,.agg (au false [2])),(1,.agg (au false [1]))] true [0,1,2],i64 0] (fun ae=>ae = .ret (.agg (au false [2]))):=DP.dh aG
theorem Pj:af 167 [.agg (au true []),.agg (au false [2])] (fun ae=>ae = .ret (.agg (au false [2]))):=DP.dh aG
theorem Pk:af 168 [.agg (au false [2]),.agg (au true [])] (fun ae=>ae = .ret (.bool false)):=DP.dh aG
theorem AK:af 65 [bJ [(0,.agg (au false [2])),(1,.agg (au false [1]))] true [0,1,2],i64 1] (fun ae=>ae = .ret (.agg (au false [1]))):=DP.dh aG
theorem Pn:af 167 [.agg (au true [0]),.agg (au true [0])] (fun ae=>ae = .ret (.agg (au true [0]))):=DP.dh aG
theorem Po:af 168 [.agg (au true [0]),.agg (au true [0])] (fun ae=>ae = .ret (.bool true)):=DP.dh aG
theorem Fp:af 167 [.agg (au false [0]),.agg (au false [0])] (fun ae=>ae = .ret (.agg (au false [0]))):=DP.dh aG
theorem Fq:af 168 [.agg (au false [0]),.agg (au false [0])] (fun ae=>ae = .ret (.bool true)):=DP.dh aG
theorem Pp:af 167 [.agg (au true [0,1]),.agg (au true [0,1])] (fun ae=>ae = .ret (.agg (au true [0,1]))):=DP.dh aG
theorem Pq:af 168 [.agg (au true [0,1]),.agg (au true [0,1])] (fun ae=>ae = .ret (.bool true)):=DP.dh aG
theorem Fs:af 167 [.agg (au false [1]),.agg (au false [1])] (fun ae=>ae = .ret (.agg (au false [1]))):=DP.dh aG
theorem Ft:af 168 [.agg (au false [1]),.agg (au false [1])] (fun ae=>ae = .ret (.bool true)):=DP.dh aG
theorem Pr:af 167 [.agg (au true [0,1,2]),.agg (au true [0,1,2])] (fun ae=>ae = .ret (.agg (au true [0,1,2]))):=DP.dh aG
theorem Pt:af 168 [.agg (au true [0,1,2]),.agg (au true [0,1,2])] (fun ae=>ae = .ret (.bool true)):=DP.dh aG
theorem Pv:af 167 [.agg (au false [2]),.agg (au false [2])] (fun ae=>ae = .ret (.agg (au false [2]))):=DP.dh aG
theorem Pw:af 168 [.agg (au false [2]),.agg (au false [2])] (fun ae=>ae = .ret (.bool true)):=DP.dh aG
theorem Px:af 170 [.agg [.bool true,.ai],i64 0] (fun ae=>ae = .ret (.agg (au true [0]))):=DP.dh aG
theorem Py:af 170 [.agg (au true [0]),i64 1] (fun ae=>ae = .ret (.agg (au true [0,1]))):=DP.dh aG
theorem Pz:af 170 [.agg (au false [0]),i64 1] (fun ae=>ae = .ret (.agg (au false [0]))):=DP.dh aG
theorem PA:af 170 [.agg (au true [0,1]),i64 2] (fun ae=>ae = .ret (.agg (au true [0,1,2]))):=DP.dh aG
theorem PB:af 170 [.agg (au false [0]),i64 2] (fun ae=>ae = .ret (.agg (au false [0]))):=DP.dh aG
theorem PD:af 170 [.agg (au false [1]),i64 2] (fun ae=>ae = .ret (.agg (au false [1]))):=DP.dh aG
theorem VB:af 114 [.agg [.cK [],.bool true,.ai],.agg [.cK [],.bool true,.ai]] (· = .ret (.ao [bJ [] true [],.bool false])):=by
 refine DP.lZ (args2:=[bJ [] true [],bJ [] true []]) ⟨.inl (.inr ⟨_,_,rfl,rfl,.r,.r,.n,trivial⟩),.inl (.inr ⟨_,_,rfl,rfl,.r,.r,.n,trivial⟩),trivial⟩ ?_;refine (uU [] [] iq iq _ _ _ _ (fI []) (fI []) (fI []) (oN []) true [] Pf Pm
  (fU _) (fU _) (fU _) (fun p hp=>by first|(simp at hp;done)|(simp at hp;rcases hp with rfl|rfl<;>exact⟨_,_,rfl⟩)|(simp at hp;subst hp;exact⟨_,_,rfl⟩)) (fun p hp=>by first|(simp at hp;done)|(simp at hp;rcases hp with rfl|rfl<;>exact⟨_,_,rfl⟩)|(simp at hp;subst hp;exact⟨_,_,rfl⟩))
  (fun k hk=>by obtain⟨x,h⟩:=hk;simp at h)
  (fun k hk=>by obtain⟨x,h⟩:=hk;simp at h)
  (fun k hk=>by obtain⟨x,h⟩:=hk;simp at h)
  (fun k hk=>by obtain⟨x,h⟩:=hk;simp at h)).mono fun ae h=>h.trans ?_
 kernel_rfl
theorem VC:af 114 [.agg [.cK [],.bool true,.ai],bJ [(0,.agg (au false [0]))] true [0]] (· = .ret (.ao [bJ [(0,.agg (au false [0]))] true [0],.bool true])):=by
 refine DP.lZ (args2:=[bJ [] true [],bJ [(0,.agg (au false [0]))] true [0]]) ⟨.inl (.inr ⟨_,_,rfl,rfl,.r,.r,.n,trivial⟩),.inl .r,trivial⟩ ?_;refine (xJ [] [(0,.agg (au false [0]))] iq iq _ _ _ _ (fI [(0,false,[0])]) (fI [(0,true,[])]) (fI [(0,false,[0])]) (oN [(0,false)]) true [0] Ps PE
  (fU _) (fU _) (fU _) (fun p hp=>by first|(simp at hp;done)|(simp at hp;rcases hp with rfl|rfl<;>exact⟨_,_,rfl⟩)|(simp at hp;subst hp;exact⟨_,_,rfl⟩)) (fun p hp=>by first|(simp at hp;done)|(simp at hp;rcases hp with rfl|rfl<;>exact⟨_,_,rfl⟩)|(simp at hp;subst hp;exact⟨_,_,rfl⟩))
  (fun k hk=>by
    have hk:k=0:=by obtain⟨x,h⟩:=hk;simp at h;omega
    rcases hk with rfl
    . exact AL)
  (fun k hk=>by
    have hk:k=0:=by obtain⟨x,h⟩:=hk;simp at h;omega
    rcases hk with rfl
    . exact AM)
  (fun k hk=>by
    have hk:k=0:=by obtain⟨x,h⟩:=hk;simp at h;omega
    rcases hk with rfl
    . exact Fu)
  (fun k hk=>by
    have hk:k=0:=by obtain⟨x,h⟩:=hk;simp at h;omega
    rcases hk with rfl
    . exact Fv)).mono fun ae h=>h.trans ?_
 kernel_rfl
theorem VD:af 114 [.agg [.cK [],.bool true,.ai],bJ [(0,.agg (au false [0])),(1,.agg (au false [1]))] true [0,1]] (· = .ret (.ao [bJ [(0,.agg (au false [0])),(1,.agg (au false [1]))] true [0,1],.bool true])):=by
 refine DP.lZ (args2:=[bJ [] true [],bJ [(0,.agg (au false [0])),(1,.agg (au false [1]))] true [0,1]]) ⟨.inl (.inr ⟨_,_,rfl,rfl,.r,.r,.n,trivial⟩),.inl .r,trivial⟩ ?_;refine (xJ [] [(0,.agg (au false [0])),(1,.agg (au false [1]))] iq iq _ _ _ _ (fI [(0,false,[0]),(1,false,[1])]) (fI [(0,true,[]),(1,true,[])]) (fI [(0,false,[0]),(1,false,[1])]) (oN [(0,false),(1,false)]) true [0,1] PF PG
  (fU _) (fU _) (fU _) (fun p hp=>by first|(simp at hp;done)|(simp at hp;rcases hp with rfl|rfl<;>exact⟨_,_,rfl⟩)|(simp at hp;subst hp;exact⟨_,_,rfl⟩)) (fun p hp=>by first|(simp at hp;done)|(simp at hp;rcases hp with rfl|rfl<;>exact⟨_,_,rfl⟩)|(simp at hp;subst hp;exact⟨_,_,rfl⟩))
  (fun k hk=>by
    have hk:k=0∨k=1:=by obtain⟨x,h⟩:=hk;simp at h;omega
    rcases hk with rfl|rfl
    . exact AL
    . exact Fi)
  (fun k hk=>by
    have hk:k=0∨k=1:=by obtain⟨x,h⟩:=hk;simp at h;omega
    rcases hk with rfl|rfl
    . exact AH
    . exact AI)
  (fun k hk=>by
    have hk:k=0∨k=1:=by obtain⟨x,h⟩:=hk;simp at h;omega
    rcases hk with rfl|rfl
    . exact Fu
    . exact Fj)
  (fun k hk=>by
    have hk:k=0∨k=1:=by obtain⟨x,h⟩:=hk;simp at h;omega
    rcases hk with rfl|rfl
    . exact Fv
    . exact Fk)).mono fun ae h=>h.trans ?_
 kernel_rfl
theorem VE:af 114 [.agg [.cK [],.bool true,.ai],bJ [(0,.agg (au false [2])),(1,.agg (au false [1]))] true [0,1,2]] (· = .ret (.ao [bJ [(0,.agg (au false [2])),(1,.agg (au false [1]))] true [0,1,2],.bool true])):=by
 refine DP.lZ (args2:=[bJ [] true [],bJ [(0,.agg (au false [2])),(1,.agg (au false [1]))] true [0,1,2]]) ⟨.inl (.inr ⟨_,_,rfl,rfl,.r,.r,.n,trivial⟩),.inl .r,trivial⟩ ?_;refine (xJ [] [(0,.agg (au false [2])),(1,.agg (au false [1]))] iq iq _ _ _ _ (fI [(0,false,[2]),(1,false,[1])]) (fI [(0,true,[]),(1,true,[])]) (fI [(0,false,[2]),(1,false,[1])]) (oN [(0,false),(1,false)]) true [0,1,2] Pg Ph
  (fU _) (fU _) (fU _) (fun p hp=>by first|(simp at hp;done)|(simp at hp;rcases hp with rfl|rfl<;>exact⟨_,_,rfl⟩)|(simp at hp;subst hp;exact⟨_,_,rfl⟩)) (fun p hp=>by first|(simp at hp;done)|(simp at hp;rcases hp with rfl|rfl<;>exact⟨_,_,rfl⟩)|(simp at hp;subst hp;exact⟨_,_,rfl⟩))
  (fun k hk=>by
    have hk:k=0∨k=1:=by obtain⟨x,h⟩:=hk;simp at h;omega
    rcases hk with rfl|rfl
    . exact AL
    . exact Fi)
  (fun k hk=>by
    have hk:k=0∨k=1:=by obtain⟨x,h⟩:=hk;simp at h;omega
    rcases hk with rfl|rfl
    . exact AJ
    . exact AK)
  (fun k hk=>by
    have hk:k=0∨k=1:=by obtain⟨x,h⟩:=hk;simp at h;omega
    rcases hk with rfl|rfl
    . exact Pj
    . exact Fj)
  (fun k hk=>by
    have hk:k=0∨k=1:=by obtain⟨x,h⟩:=hk;simp at h;omega
    rcases hk with rfl|rfl
    . exact Pk
    . exact Fk)).mono fun ae h=>h.trans ?_
 kernel_rfl
theorem VF:af 114 [bJ [(0,.agg (au false [0]))] true [0],bJ [(0,.agg (au false [0]))] true [0]] (· = .ret (.ao [bJ [(0,.agg (au false [0]))] true [0],.bool false])):=by
 refine DP.lZ (args2:=[bJ [(0,.agg (au false [0]))] true [0],bJ [(0,.agg (au false [0]))] true [0]]) ⟨.inl .r,.inl .r,trivial⟩ ?_;refine (uU [(0,.agg (au false [0]))] [(0,.agg (au false [0]))] iq iq _ _ _ _ (fI [(0,false,[0])]) (fI [(0,false,[0])]) (fI [(0,false,[0])]) (oN [(0,true)]) true [0] Pn Po
  (fU _) (fU _) (fU _) (fun p hp=>by first|(simp at hp;done)|(simp at hp;rcases hp with rfl|rfl<;>exact⟨_,_,rfl⟩)|(simp at hp;subst hp;exact⟨_,_,rfl⟩)) (fun p hp=>by first|(simp at hp;done)|(simp at hp;rcases hp with rfl|rfl<;>exact⟨_,_,rfl⟩)|(simp at hp;subst hp;exact⟨_,_,rfl⟩))
  (fun k hk=>by
    have hk:k=0:=by obtain⟨x,h⟩:=hk;simp at h;omega
    rcases hk with rfl
    . exact AM)
  (fun k hk=>by
    have hk:k=0:=by obtain⟨x,h⟩:=hk;simp at h;omega
    rcases hk with rfl
    . exact AM)
  (fun k hk=>by
    have hk:k=0:=by obtain⟨x,h⟩:=hk;simp at h;omega
    rcases hk with rfl
    . exact Fp)
  (fun k hk=>by
    have hk:k=0:=by obtain⟨x,h⟩:=hk;simp at h;omega
    rcases hk with rfl
    . exact Fq)).mono fun ae h=>h.trans ?_
 kernel_rfl
theorem VG:af 114 [bJ [(0,.agg (au false [0])),(1,.agg (au false [1]))] true [0,1],bJ [(0,.agg (au false [0])),(1,.agg (au false [1]))] true [0,1]] (· = .ret (.ao [bJ [(0,.agg (au false [0])),(1,.agg (au false [1]))] true [0,1],.bool false])):=by
 refine DP.lZ (args2:=[bJ [(0,.agg (au false [0])),(1,.agg (au false [1]))] true [0,1],bJ [(0,.agg (au false [0])),(1,.agg (au false [1]))] true [0,1]]) ⟨.inl .r,.inl .r,trivial⟩ ?_;refine (uU [(0,.agg (au false [0])),(1,.agg (au false [1]))] [(0,.agg (au false [0])),(1,.agg (au false [1]))] iq iq _ _ _ _ (fI [(0,false,[0]),(1,false,[1])]) (fI [(0,false,[0]),(1,false,[1])]) (fI [(0,false,[0]),(1,false,[1])]) (oN [(0,true),(1,true)]) true [0,1] Pp Pq
  (fU _) (fU _) (fU _) (fun p hp=>by first|(simp at hp;done)|(simp at hp;rcases hp with rfl|rfl<;>exact⟨_,_,rfl⟩)|(simp at hp;subst hp;exact⟨_,_,rfl⟩)) (fun p hp=>by first|(simp at hp;done)|(simp at hp;rcases hp with rfl|rfl<;>exact⟨_,_,rfl⟩)|(simp at hp;subst hp;exact⟨_,_,rfl⟩))
  (fun k hk=>by
    have hk:k=0∨k=1:=by obtain⟨x,h⟩:=hk;simp at h;omega
    rcases hk with rfl|rfl
    . exact AH
    . exact AI)
  (fun k hk=>by
    have hk:k=0∨k=1:=by obtain⟨x,h⟩:=hk;simp at h;omega
    rcases hk with rfl|rfl
    . exact AH
    . exact AI)
  (fun k hk=>by
    have hk:k=0∨k=1:=by obtain⟨x,h⟩:=hk;simp at h;omega
    rcases hk with rfl|rfl
    . exact Fp
    . exact Fs)
  (fun k hk=>by
    have hk:k=0∨k=1:=by obtain⟨x,h⟩:=hk;simp at h;omega
    rcases hk with rfl|rfl
    . exact Fq
    . exact Ft)).mono fun ae h=>h.trans ?_
 kernel_rfl
theorem VH:af 114 [bJ [(0,.agg (au false [2])),(1,.agg (au false [1]))] true [0,1,2],bJ [(0,.agg (au false [2])),(1,.agg (au false [1]))] true [0,1,2]] (· = .ret (.ao [bJ [(0,.agg (au false [2])),(1,.agg (au false [1]))] true [0,1,2],.bool false])):=by
 refine DP.lZ (args2:=[bJ [(0,.agg (au false [2])),(1,.agg (au false [1]))] true [0,1,2],bJ [(0,.agg (au false [2])),(1,.agg (au false [1]))] true [0,1,2]]) ⟨.inl .r,.inl .r,trivial⟩ ?_;refine (uU [(0,.agg (au false [2])),(1,.agg (au false [1]))] [(0,.agg (au false [2])),(1,.agg (au false [1]))] iq iq _ _ _ _ (fI [(0,false,[2]),(1,false,[1])]) (fI [(0,false,[2]),(1,false,[1])]) (fI [(0,false,[2]),(1,false,[1])]) (oN [(0,true),(1,true)]) true [0,1,2] Pr Pt
  (fU _) (fU _) (fU _) (fun p hp=>by first|(simp at hp;done)|(simp at hp;rcases hp with rfl|rfl<;>exact⟨_,_,rfl⟩)|(simp at hp;subst hp;exact⟨_,_,rfl⟩)) (fun p hp=>by first|(simp at hp;done)|(simp at hp;rcases hp with rfl|rfl<;>exact⟨_,_,rfl⟩)|(simp at hp;subst hp;exact⟨_,_,rfl⟩))
  (fun k hk=>by
    have hk:k=0∨k=1:=by obtain⟨x,h⟩:=hk;simp at h;omega
    rcases hk with rfl|rfl
    . exact AJ
    . exact AK)
  (fun k hk=>by
    have hk:k=0∨k=1:=by obtain⟨x,h⟩:=hk;simp at h;omega
    rcases hk with rfl|rfl
    . exact AJ
    . exact AK)
  (fun k hk=>by
    have hk:k=0∨k=1:=by obtain⟨x,h⟩:=hk;simp at h;omega
    rcases hk with rfl|rfl
    . exact Pv
    . exact Fs)
  (fun k hk=>by
    have hk:k=0∨k=1:=by obtain⟨x,h⟩:=hk;simp at h;omega
    rcases hk with rfl|rfl
    . exact Pw
    . exact Ft)).mono fun ae h=>h.trans ?_
 kernel_rfl
theorem Yf:af 116 [.agg [.cK [],.bool true,.ai],i64 0,i64 0] (· = .ret (bJ [(0,.agg (au false [0]))] true [0])):=by
 refine(Yz [] iq _ 0 0 (fI []) true [0] Px (fun p hp=>by first|(simp at hp;done)|(simp at hp;rcases hp with rfl|rfl<;>exact⟨_,_,rfl⟩)|(simp at hp;subst hp;exact⟨_,_,rfl⟩)) (fU _) (fun k x hk=>by cases hk)).mono fun ae h=>h.trans ?_
 kernel_rfl
theorem Yg:af 116 [bJ [(0,.agg (au false [0]))] true [0],i64 1,i64 1] (· = .ret (bJ [(0,.agg (au false [0])),(1,.agg (au false [1]))] true [0,1])):=by
 refine (Dz [(0, .agg (au false [0]))] iq _ _ 1 1 (fI [(0, false, [0])]) true [0, 1] Py (fun p hp => by first | (simp at hp; done) | (simp at hp; rcases hp with rfl | rfl <;> exact ⟨_, _, rfl⟩) | (simp at hp; subst hp; exact ⟨_, _, rfl⟩)) (fU _) (fun k x hk=>by
  simp only[zbB,zdb,zb2,zca] at hk;rcases hk with⟨rfl,rfl⟩
  . exact Pz)).mono fun ae h=>h.trans ?_
 kernel_rfl
theorem Yh:af 116 [bJ [(0,.agg (au false [0])),(1,.agg (au false [1]))] true [0,1],i64 2,i64 0] (· = .ret (bJ [(0,.agg (au false [2])),(1,.agg (au false [1]))] true [0,1,2])):=by
 refine (Dz [(0, .agg (au false [0])), (1, .agg (au false [1]))] iq _ _ 2 0 (fI [(0, false, [0]), (1, false, [1])]) true [0, 1, 2] PA (fun p hp => by first | (simp at hp; done) | (simp at hp; rcases hp with rfl | rfl <;> exact ⟨_, _, rfl⟩) | (simp at hp; subst hp; exact ⟨_, _, rfl⟩)) (fU _) (fun k x hk=>by
  simp only[zbB,zdb,zb2,zca] at hk;rcases hk with⟨rfl,rfl⟩|⟨rfl,rfl⟩
  . exact PB
  . exact PD)).mono fun ae h=>h.trans ?_
 kernel_rfl
def B5:List j5:=[(114,[.agg [.cK [],.bool true,.ai],.agg [.cK [],.bool true,.ai]],.ao [bJ [] true [],.bool false]),
 (114,[.agg [.cK [],.bool true,.ai],bJ [(0,.agg (au false [0]))] true [0]],.ao [bJ [(0,.agg (au false [0]))] true [0],.bool true]),
 (114,[.agg [.cK [],.bool true,.ai],bJ [(0,.agg (au false [0])),(1,.agg (au false [1]))] true [0,1]],.ao [bJ [(0,.agg (au false [0])),(1,.agg (au false [1]))] true [0,1],.bool true]),
 (114,[.agg [.cK [],.bool true,.ai],bJ [(0,.agg (au false [2])),(1,.agg (au false [1]))] true [0,1,2]],.ao [bJ [(0,.agg (au false [2])),(1,.agg (au false [1]))] true [0,1,2],.bool true]),
 (114,[bJ [(0,.agg (au false [0]))] true [0],bJ [(0,.agg (au false [0]))] true [0]],.ao [bJ [(0,.agg (au false [0]))] true [0],.bool false]),
 (114,[bJ [(0,.agg (au false [0])),(1,.agg (au false [1]))] true [0,1],bJ [(0,.agg (au false [0])),(1,.agg (au false [1]))] true [0,1]],.ao [bJ [(0,.agg (au false [0])),(1,.agg (au false [1]))] true [0,1],.bool false]),
 (114,[bJ [(0,.agg (au false [2])),(1,.agg (au false [1]))] true [0,1,2],bJ [(0,.agg (au false [2])),(1,.agg (au false [1]))] true [0,1,2]],.ao [bJ [(0,.agg (au false [2])),(1,.agg (au false [1]))] true [0,1,2],.bool false]),
 (116,[.agg [.cK [],.bool true,.ai],i64 0,i64 0],bJ [(0,.agg (au false [0]))] true [0]),
 (116,[bJ [(0,.agg (au false [0]))] true [0],i64 1,i64 1],bJ [(0,.agg (au false [0])),(1,.agg (au false [1]))] true [0,1]),
 (116,[bJ [(0,.agg (au false [0])),(1,.agg (au false [1]))] true [0,1],i64 2,i64 0],bJ [(0,.agg (au false [2])),(1,.agg (au false [1]))] true [0,1,2])]
theorem Tf:∀r∈B5,af r.1 r.2.1 (· = .ret r.2.2):=by
 intro r hr;simp only[B5,zbB,zb2,zca] at hr;rcases hr with rfl|rfl|rfl|rfl|rfl|rfl|rfl|rfl|rfl|rfl
 . exact VB
 . exact VC
 . exact VD
 . exact VE
 . exact VF
 . exact VG
 . exact VH
 . exact Yf
 . exact Yg
 . exact Yh
end Go.Ago
namespace Go.Ago
open Go.Proofs List Nat Tryz
attribute [local irreducible] bA bw aV bp bG wr aZ bF comp DC DP DW DV DY
def wid (l:List Int):Nat:=(l.filter fun r=>!(r == 2)).length
def bl (l:List Int):Nat:=(l.filter fun r=>r == 0 || r == 1).length
theorem NH (y:Int)(acc:List Int)(r:Int):wid (y::(acc++[r]))=wid (y::acc)+wid [r]:=by
 rw[<-zc2,wid,zb5,zbk];rfl
theorem Gk (y:Int)(acc:List Int)(r:Int):bl (y::(acc++[r]))=bl (y::acc)+bl [r]:=by
 rw[<-zc2,bl,zb5,zbk];rfl
theorem ta (l:List Int):wid l≤l.length:=zc4 ..
theorem Gl (l:List Int):bl l≤l.length:=zc4 ..
structure Pl (n:Nat) where
 l:List Int
 sc:Int
 fm:Int
 pt:Int
 bh:Bool
 hl:l.length≤n
 hs:0≤sc∧sc≤40 * l.length
 hf:0≤fm∧fm≤l.length
 hp:0≤pt∧pt≤l.length
 hr:∀r∈l,0≤r∧r≤5
theorem u_ {r:Int}(h:0≤r∧r≤5):∀x∈[r],0≤x∧x≤5:=by grind
theorem u9 {y:Int}{acc:List Int}{r:Int}(h:∀x∈y::acc,0≤x∧x≤5)(a:0≤r∧r≤5):∀x∈y::(acc++[r]),0≤x∧x≤5:=by
 grind
theorem SB {s:List UInt8}{w w' d e sc a dr fi fm c:Int}{f b:AV}{cr:Bool}(h:w=w')(i:d=e)(j:sc=a)(k:f=b)(g:fm=c):kK s w d sc f dr fi cr fm=kK s w' e a b dr fi cr c:=by
 grind
abbrev dV (n:Int):List AV:=[i64 n]
inductive Mk:Nat->Prop|mk (n:Nat):Mk n
theorem Kj {n:Int}(h:0≤n∧n≤5):(n=0∧Mk 0)∨(n=1∧Mk 1)∨(n=2∧Mk 2)∨(Mk 3∧n≠0∧n≠1∧n≠2):=by
 have b:=Mk.mk 0;have c:=Mk.mk 1;have d:=Mk.mk 2;have a:=Mk.mk 3
 grind
theorem vv {n:Int}(h:n≠2):wid [n]=1:=by simp[wid,h]
theorem uj {n:Int}(h:n≠0)(a:n≠1):bl [n]=0:=by simp[bl,h,a]
theorem aJ {α a:Type}{f:α->Option a}{x:α}{l:List α}{y:a}{r:List a}(h:f x=some y)(b:aM f l=some r):aM f (x::l)=some (y::r):=by simp[aM,h,b]
theorem qO {H:aj}{n k sz:Nat}{e:List AV}{es:List (List AV)}{cs:List AV}(b:H.get k=some (.arr sz (e::es)))(a:aM (snap H n) e=some cs):snap H (n+1) (.ptr k 0 0)=some (.bm cs):=by
 simp[snap,b,a]
theorem SC {H:aj}{s:List UInt8}{w d sc dr fi fm:Int}{cr:Bool}{y:Int}{acc:List Int}(e:s.length≤32)(f:(y::acc).length≤40)(g:H.get 3=some (kK s w d sc (.ay 14000 0 ((acc.map dV).length+1) 1) dr fi cr fm))(h:H.get 14000=some (.arr 1 (dV y::acc.map dV)))(c a:Int) :
 aM (snap H 20) [.ptr 3 0 0,.int .u8 c,.int .i64 a]=some [(Fo.mk s true w d sc false (y::acc) dr fi cr 32 fm e f).av,.int .u8 c,.int .i64 a]:=by
 have i:snap H 19 _=some _:=gW (fun _=>rfl) h
 have b:aM (snap H _) [.str s,.bool true,i64 w,i64 d,i64 sc,.bool false,.ay _ 0 _ 1,.int .u8 dr,i64 fi,.bool cr,.int .u8 32,i64 fm] =
  some _:=
  aJ rfl (aJ rfl (aJ rfl (aJ rfl (aJ rfl (aJ rfl (aJ i rfl))))))
 exact aJ (qO g b) rfl
theorem X1 (s:List UInt8)(w d sc dr fi fm c a:Int)(cr:Bool):af 312 [.bm [.str s,.bool true,i64 w,i64 d,i64 sc,.bool false,.ai,.int .u8 dr,i64 fi,.bool cr,.int .u8 32,i64 fm],.int .u8 c,i64 a] (fun e=>∃n:Int,e = .ret (.int .i64 n)∧0≤n∧n≤5):=by
 refine zw func312 ?_;refine zg ?_
 repeat' ((first|(refine zp ?_ ?_<;>intro h)|(refine DC.pure rfl (kh _ _) ?_;rintro _ rfl))<;>refine zg ?_)
 all_goals exact⟨_,rfl,ab,ab⟩
theorem JH (s c:List UInt8)(cr:Bool)(dr fi:Int)(F:c.length≤32)(o:s.length≤32):cM 281 [.ptr 3 0 0,.str c] (Tr.put 3 (some (kK s 0 0 0 .ai dr fi cr 0)) .nil) 10000
 (fun v H nx => v = .ret (.bool false) ∨ (∃(y:Int) (acc:List Int) (sc fm:Int),v = .ret (.bool true)∧H=Tr.put 3 (some (kK s (wid (y::acc)) (bl (y::acc)) sc (.ay 14000 0 ((acc.map dV).length+1) 1) dr fi cr fm)) (Tr.put 14000 (some (.arr 1 (dV y::acc.map dV))) .nil)∧nx=15038 ∧
   acc.length+1=c.length∧1≤bl (y::acc)∧bl (y::acc)≤9∧∀r∈y::acc,0≤r∧r≤5)):=by
 refine zd func281 ?_
 conv=>whnf
 have w0:wid [0]=1:=rfl;have wn:wid []=0:=rfl;have dn:bl []=0:=rfl;have w1:wid [1]=1:=rfl;have w2:wid [2]=0:=rfl;have d0:bl [0]=1:=rfl;have d1:bl [1]=1:=rfl;have d2:bl [2]=0:=rfl;refine DW.aO aC aD [0,4,11,12] [3] 5000 (fun x:Pl c.length=>[(5,i64 x.pt),(6,.bool x.bh),(13,i64 x.l.length)]) (fun x=>(3,kK s (wid x.l) (bl x.l) x.sc (fu 14000 1 (x.l.map dV)) dr fi cr x.fm)::fq 14000 1 (x.l.map dV)) [(14000,.cell 3 6)] (fun x=>40 - x.l.length) (⟨[],0,0,0,false,ag,ag,ag,ag,ag⟩) ?_
 conv=>whnf
 refine⟨?_,fun x=>?_⟩
 . conv => whnf
   (exact lO)
 obtain⟨l,sc,fm,a,k,p,u,q,z,j⟩:=x;rcases l with _|⟨y,acc⟩
 . simp only [zbp] at p u q z
   have E:([]:List Int).length=0:=rfl;refine zk ?_
   repeat' ((first|refine zf ?_|(refine zp ?_ ?_<;>first|exact⟨⟩|intro h)|(refine DC.flat rfl (X1 _ _ _ _ _ _ _ _ _ _) ?_;rintro _ ⟨n,rfl,m⟩;rcases Kj m with⟨rfl,b⟩|⟨rfl,b⟩|⟨rfl,b⟩|⟨b,f,g,i⟩<;>refine⟨rfl,?_⟩)|refine az.mk _ (Jp (n:=0) aa) ?_)<;>refine zk ?_)
   all_goals first|exact .inl rfl|(rename Mk 0=>e;refine⟨⟨[0],sc+a,fm+1,a,k,dc,dc,dc,dc,u_ ab⟩,?_,rfl,?_⟩<;>((conv=>whnf);(exact lO);done))|(rename Mk 1=>e;refine⟨⟨[1],sc+a,fm,a,true,dc,dc,dc,dc,u_ ab⟩,?_,rfl,?_⟩<;>((conv=>whnf);(exact lO);done))|(rename Mk 1=>e;refine⟨⟨[1],sc+a,fm,a,false,dc,dc,dc,dc,u_ ab⟩,?_,rfl,?_⟩<;>((conv=>whnf);(exact lO);done))|(rename Mk 2=>e;refine⟨⟨[2],sc,fm,a+1,k,dc,dc,dc,dc,u_ ab⟩,?_,rfl,?_⟩<;>((conv=>whnf);(exact lO);done))|(rename Mk 3=>e;have C:=vv i;have B:=uj f g;refine⟨⟨[n],sc,fm,a,k,dc,dc,dc,dc,u_ m⟩,?_,rfl,?_⟩<;>((conv=>whnf);(exact lO);done))
 . simp only [zbd] at p u q z
   have D:=ta (y::acc);have A:=Gl (y::acc);simp only[zbd] at D A;refine zk ?_
   repeat' ((first|refine zf ?_|(refine Rq.mk (eP 8 64 ag rfl rfl qW ab) ?_)|(refine zp ?_ ?_<;>first|exact⟨⟩|intro h)|(refine DC.flat (SC (s:=s) (w:=wid (y::acc)) (d:=bl (y::acc)) (sc:=sc) (dr:=dr) (fi:=fi) (fm:=fm) (cr:=cr) (y:=y) (acc:=acc) o (by simp only[zbd] at *;omega) rfl rfl _ _) (X0 _ _ _) ?_;rintro _ ⟨n,rfl,m⟩;rcases Kj m with⟨rfl,b⟩|⟨rfl,b⟩|⟨rfl,b⟩|⟨b,f,g,i⟩<;>refine⟨rfl,?_⟩)|(refine az.mk _ (Jp (n:=((y::acc).length:Int)) (by simp only[zbd];omega)) ?_))<;>refine zk ?_)
   all_goals first|exact .inl rfl|(rename Mk 0=>e;refine⟨⟨y::(acc++[0]),sc+a,fm+1,a,k,dc,dc,dc,dc,u9 j ab⟩,?_,rfl,?_⟩<;>first|((conv=>whnf);(exact lO);done)|(dsimp only;simp only[zbd,zbk,zbp];omega))|(rename Mk 1=>e;refine⟨⟨y::(acc++[1]),sc+a,fm,a,true,dc,dc,dc,dc,u9 j ab⟩,?_,rfl,?_⟩<;>first|((conv=>whnf);(exact lO);done)|(dsimp only;simp only[zbd,zbk,zbp];omega))|(rename Mk 1=>e;refine⟨⟨y::(acc++[1]),sc+a,fm,a,false,dc,dc,dc,dc,u9 j ab⟩,?_,rfl,?_⟩<;>first|((conv=>whnf);(exact lO);done)|(dsimp only;simp only[zbd,zbk,zbp];omega))|(rename Mk 2=>e;refine⟨⟨y::(acc++[2]),sc,fm,a+1,k,dc,dc,dc,dc,u9 j ab⟩,?_,rfl,?_⟩<;>first|((conv=>whnf);(exact lO);done)|(dsimp only;simp only[zbd,zbk,zbp];omega))|(rename Mk 3=>e;have C:=vv i;have B:=uj f g;refine⟨⟨y::(acc++[n]),sc,fm,a,k,dc,dc,dc,dc,u9 j m⟩,?_,rfl,?_⟩<;>first|((conv=>whnf);(exact lO);done)|(dsimp only;simp only[zbd,zbk,zbp];omega))|exact .inr ⟨y,acc,sc,fm,rfl,rfl,rfl,aa,aa,aa,j⟩
end Go.Ago
