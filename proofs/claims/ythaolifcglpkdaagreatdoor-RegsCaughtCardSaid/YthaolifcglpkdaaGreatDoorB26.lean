/-
  Part B26: lemmas, each with its own conditions.
-/
import Derived.Test.YthaolifcglpkdaaGreatDoorB24
set_option maxRecDepth 100000
set_option maxHeartbeats 0
set_option linter.all false
namespace Go.Ago
open Go.Proofs List Nat
def Lt:AV := .ao [DR,.agg [.ak 1 [[.ak 1 [[i64 0],[i64 1],[i64 2],[i64 (-1)],[i64 (-1)],[i64 3],[i64 4],[i64 (-1)],[i64 5],[i64 6]]]]],i64 0]
def n8:AV := .agg [.ak 1 [[.ak 1 [[i64 0],[i64 1],[i64 2],[i64 3],[i64 4],[i64 5],[i64 6]]]]]
theorem zaI:af 22 [dD,i64 4,i64 0,.ak 1 [[i64 1]]] (· = .ret (Lt)):=by
 refine jP (T:=[(14,[dD],i64 0),(14,[DR],i64 0)]) (n:=40) (fun r hr=>?_) aG
 simp only[zbB,zb2,zca] at hr;rcases hr with rfl|rfl
 . exact ly
 . exact Qi
theorem zay:af 11 [dD,i64 4] (· = .ret (.ao [ln,n8,i64 0])):=by
 refine jP (T:=[(14,[dD],i64 0),(37,[ni],nt)]) (n:=40) (fun r hr=>?_) aG
 simp only[zbB,zb2,zca] at hr;rcases hr with rfl|rfl
 . exact ly
 . exact oD
def Ix:AV := .ao [.ak 1 [[.ai],[.ai],[.ak 1 [[i64 0]]],[.ak 1 [[i64 0],[i64 1]]],[.ak 1 [[i64 1]]],[.ak 1 [[i64 1]]],[.ak 1 [[i64 2]]],[.ai]],i64 0]
def FV:AV := .ao [.ak 2 [[i64 0,i64 1]],i64 0]
def F4:AV := .ao [.agg [.ak 7 [[.str [77,65,73,78],i64 (-1),i64 0,i64 16,.ai,.ai,.ai]],i64 0,.ai,.ak 2 [[.str [83,89,83,80,82,73,78,84],i64 2]],.ai,.ai,.ak 2 [[i64 2,.ak 29 [[i64 1,i64 (-1),i64 (-1),i64 (-1),i64 0,i64 0,i64 0,.bool false,.str [],i64 0,i64 0,i64 0,.bool false,.str [],i64 0,i64 0,i64 0,.bool false,.str [],i64 10,i64 0,i64 0,i64 0,.str [],.ai,.ai,.ai,.bool false,.bool false],[i64 2,i64 0,i64 (-1),i64 (-1),i64 2,i64 15,i64 0,.bool false,.str [],i64 0,i64 0,i64 0,.bool false,.str [],i64 0,i64 0,i64 0,.bool false,.str [],i64 0,i64 0,i64 0,i64 7,.str [],.ai,.ai,.ai,.bool false,.bool false],[i64 4,i64 1,i64 (-1),i64 (-1),i64 0,i64 0,i64 0,.bool false,.str [],i64 0,i64 0,i64 0,.bool false,.str [],i64 0,i64 0,i64 0,.bool false,.str [],i64 1,i64 0,i64 0,i64 0,.str [],.ai,.ai,.ai,.bool false,.bool false],[i64 9,i64 (-1),i64 1,i64 0,i64 2,i64 15,i64 0,.bool false,.str [],i64 0,i64 0,i64 0,.bool false,.str [],i64 0,i64 0,i64 0,.bool false,.str [],i64 0,i64 0,i64 0,i64 0,.str [],.ai,.ai,.ai,.bool false,.bool false],[i64 1,i64 (-1),i64 (-1),i64 (-1),i64 0,i64 0,i64 0,.bool false,.str [],i64 0,i64 0,i64 0,.bool false,.str [],i64 0,i64 0,i64 0,.bool false,.str [],i64 20,i64 0,i64 0,i64 0,.str [],.ai,.ai,.ai,.bool false,.bool false],[i64 8,i64 0,i64 1,i64 (-1),i64 2,i64 15,i64 0,.bool false,.str [],i64 0,i64 0,i64 0,.bool false,.str [],i64 0,i64 0,i64 0,.bool false,.str [],i64 0,i64 0,i64 0,i64 0,.str [],.ai,.ai,.ai,.bool false,.bool false],[i64 27,i64 (-1),i64 (-1),i64 (-1),i64 0,i64 0,i64 0,.bool false,.str [],i64 0,i64 0,i64 0,.bool false,.str [],i64 0,i64 0,i64 0,.bool false,.str [],i64 0,i64 0,i64 0,i64 0,.str [],.ai,.ak 1 [[i64 0]],.ak 5 [[i64 2,i64 15,i64 0,.bool false,.str []]],.bool false,.bool false]]]]],i64 0]
def F5:AV := .ao [.agg [.ai,i64 0,.ai,.ai,.ai,.ai,.ai],i64 1]
theorem zaF:af 10 [dD,i64 0] (· = .ret (Ix)):=by
 refine jP (T:=[(14,[dD],i64 0),(37,[ni],nt)]) (n:=40) (fun r hr=>?_) aG
 simp only[zbB,zb2,zca] at hr;rcases hr with rfl|rfl
 . exact ly
 . exact oD
theorem zaG:af 9 [dD,i64 0] (· = .ret (.ao [i64 2,i64 0])):=by
 refine jP (T:=[(14,[dD],i64 0),(37,[ni],nt)]) (n:=40) (fun r hr=>?_) aG
 simp only[zbB,zb2,zca] at hr;rcases hr with rfl|rfl
 . exact ly
 . exact oD
theorem zaA:af 21 [dD,i64 0] (· = .ret (FV)):=by
 refine jP (T:=[(14,[dD],i64 0),(37,[ni],nt)]) (n:=40) (fun r hr=>?_) aG
 simp only[zbB,zb2,zca] at hr;rcases hr with rfl|rfl
 . exact ly
 . exact oD
theorem zaJ:af 8 [dD,i64 0] (· = .ret (.ao [.bool true,i64 0])):=by
 refine jP (T:=[(14,[dD],i64 0),(37,[ni],nt)]) (n:=40) (fun r hr=>?_) aG
 simp only[zbB,zb2,zca] at hr;rcases hr with rfl|rfl
 . exact ly
 . exact oD
theorem zaE:af 26 [dD,i64 4] (· = .ret (i64 210)):=by
 refine jP (T:=[(14,[dD],i64 0),(37,[ni],nt)]) (n:=40) (fun r hr=>?_) aG
 simp only[zbB,zb2,zca] at hr;rcases hr with rfl|rfl
 . exact ly
 . exact oD
theorem zaB:af 13 [dD,i64 0,.ak 1 [[i64 0],[i64 1],[i64 0]]] (· = .ret (F4)):=by
 refine jP (T:=[(14,[dD],i64 0),(37,[ni],nt)]) (n:=40) (fun r hr=>?_) aG
 simp only[zbB,zb2,zca] at hr;rcases hr with rfl|rfl
 . exact ly
 . exact oD
theorem zaC:af 13 [dD,i64 0,.ak 1 [[i64 1],[i64 1],[i64 0]]] (· = .ret (F5)):=by
 refine jP (T:=[(14,[dD],i64 0),(37,[ni],nt)]) (n:=40) (fun r hr=>?_) aG
 simp only[zbB,zb2,zca] at hr;rcases hr with rfl|rfl
 . exact ly
 . exact oD
end Go.Ago
