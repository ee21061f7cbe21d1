/-
  Part A46: lemmas, each with its own conditions.
-/
import Derived.Test.YthaolifcglpkdaaGreatDoorA45
set_option maxRecDepth 100000
set_option maxHeartbeats 0
set_option linter.all false
namespace Go.Ago
open Go.Proofs List Nat
def Ic:AV := .ao [.ak 1 [[.ah],[.ah],[.ak 1 [[i64 0]]],[.ak 1 [[i64 0],[i64 1]]],[.ak 1 [[i64 1]]],[.ak 1 [[i64 1]]],[.ak 1 [[i64 2]]],[.ah]],i64 0]
def FF:AV := .ao [.ak 2 [[i64 0,i64 1]],i64 0]
def FN:AV := .ao [.agg [.ak 7 [[.str [77,65,73,78],i64 (-1),i64 0,i64 16,.ah,.ah,.ah]],i64 0,.ah,.ak 2 [[.str [83,89,83,80,82,73,78,84],i64 2]],.ah,.ah,.ak 2 [[i64 2,.ak 29 [[i64 1,i64 (-1),i64 (-1),i64 (-1),i64 0,i64 0,i64 0,.bool false,.str [],i64 0,i64 0,i64 0,.bool false,.str [],i64 0,i64 0,i64 0,.bool false,.str [],i64 10,i64 0,i64 0,i64 0,.str [],.ah,.ah,.ah,.bool false,.bool false],[i64 2,i64 0,i64 (-1),i64 (-1),i64 2,i64 15,i64 0,.bool false,.str [],i64 0,i64 0,i64 0,.bool false,.str [],i64 0,i64 0,i64 0,.bool false,.str [],i64 0,i64 0,i64 0,i64 7,.str [],.ah,.ah,.ah,.bool false,.bool false],[i64 4,i64 1,i64 (-1),i64 (-1),i64 0,i64 0,i64 0,.bool false,.str [],i64 0,i64 0,i64 0,.bool false,.str [],i64 0,i64 0,i64 0,.bool false,.str [],i64 1,i64 0,i64 0,i64 0,.str [],.ah,.ah,.ah,.bool false,.bool false],[i64 9,i64 (-1),i64 1,i64 0,i64 2,i64 15,i64 0,.bool false,.str [],i64 0,i64 0,i64 0,.bool false,.str [],i64 0,i64 0,i64 0,.bool false,.str [],i64 0,i64 0,i64 0,i64 0,.str [],.ah,.ah,.ah,.bool false,.bool false],[i64 1,i64 (-1),i64 (-1),i64 (-1),i64 0,i64 0,i64 0,.bool false,.str [],i64 0,i64 0,i64 0,.bool false,.str [],i64 0,i64 0,i64 0,.bool false,.str [],i64 20,i64 0,i64 0,i64 0,.str [],.ah,.ah,.ah,.bool false,.bool false],[i64 8,i64 0,i64 1,i64 (-1),i64 2,i64 15,i64 0,.bool false,.str [],i64 0,i64 0,i64 0,.bool false,.str [],i64 0,i64 0,i64 0,.bool false,.str [],i64 0,i64 0,i64 0,i64 0,.str [],.ah,.ah,.ah,.bool false,.bool false],[i64 27,i64 (-1),i64 (-1),i64 (-1),i64 0,i64 0,i64 0,.bool false,.str [],i64 0,i64 0,i64 0,.bool false,.str [],i64 0,i64 0,i64 0,.bool false,.str [],i64 0,i64 0,i64 0,i64 0,.str [],.ah,.ak 1 [[i64 0]],.ak 5 [[i64 2,i64 15,i64 0,.bool false,.str []]],.bool false,.bool false]]]]],i64 0]
def FO:AV := .ao [.agg [.ah,i64 0,.ah,.ah,.ah,.ah,.ah],i64 1]
theorem Z_:af 10 [dB,i64 0] (· = .ret (Ic)):=by
 refine jN (T:=[(14,[dB],i64 0),(37,[ni],nu)]) (n:=40) (fun r hr=>?_) aG
 simp only[mem_cons,not_mem_nil,or_false] at hr;rcases hr with rfl|rfl
 . exact ly
 . exact oF
theorem zaa:af 9 [dB,i64 0] (· = .ret (.ao [i64 2,i64 0])):=by
 refine jN (T:=[(14,[dB],i64 0),(37,[ni],nu)]) (n:=40) (fun r hr=>?_) aG
 simp only[mem_cons,not_mem_nil,or_false] at hr;rcases hr with rfl|rfl
 . exact ly
 . exact oF
theorem Z5:af 21 [dB,i64 0] (· = .ret (FF)):=by
 refine jN (T:=[(14,[dB],i64 0),(37,[ni],nu)]) (n:=40) (fun r hr=>?_) aG
 simp only[mem_cons,not_mem_nil,or_false] at hr;rcases hr with rfl|rfl
 . exact ly
 . exact oF
theorem zad:af 8 [dB,i64 0] (· = .ret (.ao [.bool true,i64 0])):=by
 refine jN (T:=[(14,[dB],i64 0),(37,[ni],nu)]) (n:=40) (fun r hr=>?_) aG
 simp only[mem_cons,not_mem_nil,or_false] at hr;rcases hr with rfl|rfl
 . exact ly
 . exact oF
theorem Z9:af 26 [dB,i64 4] (· = .ret (i64 210)):=by
 refine jN (T:=[(14,[dB],i64 0),(37,[ni],nu)]) (n:=40) (fun r hr=>?_) aG
 simp only[mem_cons,not_mem_nil,or_false] at hr;rcases hr with rfl|rfl
 . exact ly
 . exact oF
theorem Z6:af 13 [dB,i64 0,.ak 1 [[i64 0],[i64 1],[i64 0]]] (· = .ret (FN)):=by
 refine jN (T:=[(14,[dB],i64 0),(37,[ni],nu)]) (n:=40) (fun r hr=>?_) aG
 simp only[mem_cons,not_mem_nil,or_false] at hr;rcases hr with rfl|rfl
 . exact ly
 . exact oF
theorem Z7:af 13 [dB,i64 0,.ak 1 [[i64 1],[i64 1],[i64 0]]] (· = .ret (FO)):=by
 refine jN (T:=[(14,[dB],i64 0),(37,[ni],nu)]) (n:=40) (fun r hr=>?_) aG
 simp only[mem_cons,not_mem_nil,or_false] at hr;rcases hr with rfl|rfl
 . exact ly
 . exact oF
def Kq:List j4:=[(20,[],dB),
 (10,[dB,i64 0],Ic),
 (9,[dB,i64 0],.ao [.int .i64 2,.int .i64 0]),
 (21,[dB,i64 0],FF),
 (8,[dB,i64 0],.ao [.bool true,.int .i64 0]),
 (26,[dB,i64 4],.int .i64 210),
 (13,[dB,i64 0,.ak 1 [[i64 0],[i64 1],[i64 0]]],FN),
 (13,[dB,i64 0,.ak 1 [[i64 1],[i64 1],[i64 0]]],FO),
 (22,[dB,i64 4,i64 0,.ak 1 [[i64 1]]],La),
 (11,[dB,i64 4],.ao [lk,oa,i64 0]),
 (15,[dB,i64 4,lk,oa],i64 0)]
theorem XV:∀r∈Kq,af r.1 r.2.1 (· = .ret r.2.2):=by
 intro r hr;simp only[Kq,mem_cons,not_mem_nil,or_false] at hr;rcases hr with rfl|rfl|rfl|rfl|rfl|rfl|rfl|rfl|rfl|rfl|rfl
 . exact XT
 . exact Z_
 . exact zaa
 . exact Z5
 . exact zad
 . exact Z9
 . exact Z6
 . exact Z7
 . exact zac
 . exact Z3
 . exact Z4
theorem XU:af 6 [] (fun ae=>ae = .ret (.bool true)):=jN XV (n:=40) aG
end Go.Ago
