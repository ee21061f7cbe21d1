/-
  Part B27: lemmas, each with its own conditions.
-/
import Derived.Test.YthaolifcglpkdaaGreatDoorB26
set_option maxRecDepth 100000
set_option maxHeartbeats 0
set_option linter.all false
namespace Go.Ago
open Go.Proofs List Nat
def Qg:List j5:=(14,[dD],i64 0)::(14,[ln],i64 0)::B5
theorem FJ:∀r∈Qg,af r.1 r.2.1 (· = .ret r.2.2):=by
 intro r hr;rcases zbB.1 hr with rfl|hr
 . exact ly
 . rcases zbB.1 hr with rfl | hr
   . exact FM
   . exact Tf r hr
theorem zaH:af 60 [.agg (dD.cells++ln.cells++n8.cells),i64 0] (· = .ret (.bool true)):=jP FJ (n:=40) aG
theorem zaD:af 59 [.agg (dD.cells++ln.cells++n8.cells)] (· = .ret (.bool true)):=jP FJ (n:=40) aG
def FL:List j5:=[(14,[dD],i64 0),(14,[ln],i64 0),(60,[.agg (dD.cells++ln.cells++n8.cells),i64 0],.bool true),(59,[.agg (dD.cells++ln.cells++n8.cells)],.bool true)]
theorem Qh:∀r∈FL,af r.1 r.2.1 (· = .ret r.2.2):=by
 intro r hr;simp only[FL,zbB,zb2,zca] at hr;rcases hr with rfl|rfl|rfl|rfl
 . exact ly
 . exact FM
 . exact zaH
 . exact zaD
theorem zaz:af 15 [dD,i64 4,ln,n8] (· = .ret (i64 0)):=jP Qh (n:=40) aG
def KI:List j5:=[(20,[],dD),
 (10,[dD,i64 0],Ix),
 (9,[dD,i64 0],.ao [.int .i64 2,.int .i64 0]),
 (21,[dD,i64 0],FV),
 (8,[dD,i64 0],.ao [.bool true,.int .i64 0]),
 (26,[dD,i64 4],.int .i64 210),
 (13,[dD,i64 0,.ak 1 [[i64 0],[i64 1],[i64 0]]],F4),
 (13,[dD,i64 0,.ak 1 [[i64 1],[i64 1],[i64 0]]],F5),
 (22,[dD,i64 4,i64 0,.ak 1 [[i64 1]]],Lt),
 (11,[dD,i64 4],.ao [ln,n8,i64 0]),
 (15,[dD,i64 4,ln,n8],i64 0)]
theorem Yo:∀r∈KI,af r.1 r.2.1 (· = .ret r.2.2):=by
 intro r hr;simp only[KI,zbB,zb2,zca] at hr;rcases hr with rfl|rfl|rfl|rfl|rfl|rfl|rfl|rfl|rfl|rfl|rfl
 . exact Ym
 . exact zaF
 . exact zaG
 . exact zaA
 . exact zaJ
 . exact zaE
 . exact zaB
 . exact zaC
 . exact zaI
 . exact zay
 . exact zaz
theorem Yn:af 6 [] (fun ae=>ae = .ret (.bool true)):=jP Yo (n:=40) aG
end Go.Ago
