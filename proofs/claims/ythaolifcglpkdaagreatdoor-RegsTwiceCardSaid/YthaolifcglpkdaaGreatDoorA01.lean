/-
  Part A01: lemmas, each with its own conditions.
-/
import Derived.ProofKit
import Derived.Below
import Derived.Calls
set_option maxRecDepth 100000
set_option maxHeartbeats 0
set_option linter.all false
namespace Go.Ago
open List Nat
theorem lO {P:Prop}(h:P:=by first|(((repeat' first|exact True.intro|apply And.intro|rfl|(refine R3 ?_ ?_ ?_ ?_ ?_<;>first|rfl|exact dW aB aB ag aB|((try dsimp only);(try simp only[length_cons,length_append,length_nil]);first|rfl|(rw[aF aa aa];done)|((try rw[aF aa aa]);(try simp only[Nf,F2]);first|rfl|(simp only[vo,ug,w0,w1,w2,d0,d1,d2,wn,dn, *,ne_eq,not_false_eq_true];omega)|omega|(simp only[length_cons,length_append,length_nil];omega))))|exact dW aB aB ag aB|exact eS aB (gl (f:=dU) (fun _=>by rfl) aB ag)|exact eS aB (yx (f:=dU) (fun _=>by rfl))|exact cX (f:=dU) (fun _=>by rfl)|exact congrArg (AV.int .i64) (by(try dsimp only);((try dsimp only);(try simp only[length_cons,length_append,length_nil]);first|rfl|(rw[aF aa aa];done)|((try rw[aF aa aa]);(try simp only[Nf,F2]);first|rfl|(simp only[vo,ug,w0,w1,w2,d0,d1,d2,wn,dn, *,ne_eq,not_false_eq_true];omega)|omega|(simp only[length_cons,length_append,length_nil];omega))))|(simp[AV.l1,AV.la,AV.l0];done)));done)|fail):P:=h
theorem zc {P:Prop}(h:P:=by first|(((repeat' (first|exact FC|(refine FB (x:=?_) ?_ ?_ ?_ ?_;rotate_left;exact rfl;((conv=>rhs;whnf)<;>(first|(refine Yv (qE ?_);exact rfl)|(refine JE (qE ?_);exact rfl)|rfl|(refine congrArg (AV.int IntKind.i64) ?_;(try dsimp only);refine(aF aa aa).trans ?_;omega)));(first|(refine Yw ?_;exact rfl)|(refine JF ?_;exact rfl)|rfl)))));done)|fail):P:=h
theorem aa {P:Prop}(h:P:=by first|((omega);done)|fail):P:=h
theorem gy {P:Prop}(h:P:=by first|(((repeat' first|exact True.intro|apply And.intro|rfl|exact dW aB aB ag aB|exact eS aB (gl (f:=fun n:Int=>[AV.int .u8 n]) (fun _=>by rfl) aB ag)|exact eS aB (yx (f:=fun n:Int=>[AV.int .u8 n]) (fun _=>by rfl))|exact cX (f:=fun n:Int=>[AV.int .u8 n]) (fun _=>by rfl)|(refine cw ?_ ?_ ?_<;>(try dsimp only)<;>omega)|(simp[AV.l1,AV.la,AV.l0];done)));done)|fail):P:=h
theorem Ec {P:Prop}(h:P:=by first|(((repeat' first|exact True.intro|apply And.intro|rfl|(refine WA ?_ ?_<;>first|rfl|((try dsimp only);first|rfl|(rw[aF aa aa];done)|omega|(rw[aF aa aa];omega)))|exact dW aB aB ag aB|exact eS aB (gl (f:=gB) (fun _=>by rfl) aB ag)|exact eS aB (yx (f:=gB) (fun _=>by rfl))|exact cX (f:=gB) (fun _=>by rfl)|exact congrArg (AV.int .i64) (by(try dsimp only);((try dsimp only);first|rfl|(rw[aF aa aa];done)|omega|(rw[aF aa aa];omega)))|(simp[AV.l1,AV.la,AV.l0];done)));done)|fail):P:=h
theorem Eh {P:Prop}(h:P:=by first|(((repeat' first|exact True.intro|apply And.intro|rfl|exact gE aB|exact mc|exact congrArg (fun v=>an.arr 2 [[i64 kn,v]]) (dW aB aB q_ aB)|exact dW aB aB q_ aB|exact eS aB (gl (f:=ic) (fun _=>by rfl) aB ag)|exact eS aB (Sv (f:=Ins.cells) (fun _=>by rfl) ag)|exact dZ (f:=ic) (fun _=>by rfl)|exact cX (f:=ic) (fun _=>by rfl)|exact dZ (f:=Ins.cells) (fun _=>by rfl)|exact cX (f:=Ins.cells) (fun _=>by rfl)|(simp[AV.l1,AV.la,AV.l0];done)|(refine cw ?_ ?_ ?_<;>(try dsimp only)<;>omega)|exact congrArg (AV.int .i64) cS));done)|fail):P:=h
theorem Ej {P:Prop}(h:P:=by first|(((repeat' first|exact True.intro|apply And.intro|rfl|exact dW aB aB ag aB|exact eS aB (gl (f:=ic) (fun _=>by rfl) aB ag)|exact dZ (f:=ic) (fun _=>by rfl)|exact cX (f:=ic) (fun _=>by rfl)|(simp[AV.l1,AV.la,AV.l0];done)|(refine cw ?_ ?_ ?_<;>(try dsimp only)<;>omega)|exact congrArg (AV.int .i64) cS));done)|fail):P:=h
theorem Ek {P:Prop}(h:P:=by first|(((repeat' first|exact True.intro|apply And.intro|rfl|exact congrArg (fun v=>an.arr 1 [[v]]) (dW aB aB q_ aB)|exact eS aB (gl (f:=db) (fun _=>by rfl) aB ag)|exact dW aB aB q_ aB|exact eS aB (gl (f:=ic) (fun _=>by rfl) aB ag)|exact dZ (f:=ic) (fun _=>by rfl)|exact cX (f:=ic) (fun _=>by rfl)|exact dZ (f:=db) (fun _=>by rfl)|exact cX (f:=db) (fun _=>by rfl)|(refine cw ?_ ?_ ?_<;>(try dsimp only)<;>omega)|exact congrArg (AV.int .i64) cS));done)|fail):P:=h
theorem nW {P:Prop}(h:P:=by first|(((conv=>whnf);(repeat' first|exact True.intro|apply And.intro|rfl|exact jD (FH hmkl)|exact jD vW|exact gE xc|exact jD aB|exact gE aB|exact jD yk|exact gE ym|exact vV|exact mc|exact congrArg (fun v=>an.arr 2 [[i64 k,v]]) (dW aB aB ag aB)|exact dW aB aB ag aB|exact eS aB (gl (f:=Ins.cells) (fun _=>by rfl) aB ag)|exact dZ (f:=Ins.cells) (fun _=>by rfl)|exact cX (f:=Ins.cells) (fun _=>by rfl)|(simp[AV.l1,AV.la,AV.l0];done)|(refine cw ?_ ?_ ?_<;>(try dsimp only)<;>omega)|exact congrArg (AV.int .i64) cS));done)|fail):P:=h
theorem zF {P:Prop}(h:P:=by first|((first|exact kb im |>.trans (ju zz)|exact kK im rfl ((kb im).trans (ju zz))|exact kK im rfl (kK im rfl ((kb im).trans (ju zz)))|exact kK im rfl (kK im rfl (kK im rfl ((kb im).trans (ju zz)))));done)|fail):P:=h
theorem nU {P:Prop}(h:P:=by first|(((repeat' first|exact True.intro|apply And.intro|rfl|exact dW aB aB ag aB|exact eS aB (gl (f:=gB) (fun _=>by rfl) aB ag)|exact eS aB (yx (f:=gB) (fun _=>by rfl))|exact cX (f:=gB) (fun _=>by rfl)|exact congrArg (AV.int .i64) (by(try dsimp only);((try dsimp only);first|rfl|(rw[aF aa aa];done)|omega|(rw[aF aa aa];omega)))|(simp[AV.l1,AV.la,AV.l0];done)));done)|fail):P:=h
theorem nV {P:Prop}(h:P:=by first|(((repeat' first|exact True.intro|apply And.intro|rfl|exact congrArg (fun v=>an.arr 1 [[v]]) (dW aB aB q_ aB)|exact eS aB (gl (f:=db) (fun _=>by rfl) aB ag)|exact dZ (f:=db) (fun _=>by rfl)|exact cX (f:=db) (fun _=>by rfl)|(refine cw ?_ ?_ ?_<;>(try dsimp only)<;>omega)|exact congrArg (AV.int .i64) cS));done)|fail):P:=h
theorem df {P:Prop}(h:P:=by first|((simp only[length_cons,length_append,length_nil] at *;omega);done)|fail):P:=h
theorem vp {P:Prop}(h:P:=by first|(((repeat' first|exact xa hj hg0 (wR hg0)|(refine BJ hj ?_ ?_;(first|rfl|(fail)))|(refine BK ?_ ?_;(first|rfl|(fail)))));done)|fail):P:=h
theorem lP {P:Prop}(h:P:=by first|(((repeat' (first|exact jH|(refine jG (x:=?_) ?_ ?_ ?_ ?_ ?_ ?_;rotate_left;exact rfl;exact rfl;exact rfl;(first|exact mw|(refine mu ?_ ?_<;>first|rfl|omega)|exact True.intro|rfl);(first|exact jP|(refine lH ?_ ?_<;>first|rfl|omega)|rfl)))));done)|fail):P:=h
theorem ik {P:Prop}(h:P:=by first|((first|exact sB rfl tz|exact CR ag aa hnq|exact sF ez hq|exact CQ ag aa aa);done)|fail):P:=h
theorem iO {P:Prop}(h:P:=by first|(((repeat' first|exact True.intro|apply And.intro|rfl|exact dW aB aB ag aB|(refine cw ?_ ?_ ?_<;>(try dsimp only)<;>omega)|(simp[AV.l1,AV.la,AV.l0];done)));done)|fail):P:=h
theorem vq {P:Prop}(h:P:=by first|(((conv=>whnf);(repeat' first|exact True.intro|apply And.intro|rfl|exact jD vW|exact gE xc|exact jD aB|exact gE aB|exact jD yk|exact gE ym|exact vV|exact mc|exact congrArg (fun v=>an.arr 2 [[i64 k,v]]) (dW aB aB ag aB)|exact dW aB aB ag aB|exact eS aB (gl (f:=Ins.cells) (fun _=>by rfl) aB ag)|exact dZ (f:=Ins.cells) (fun _=>by rfl)|exact cX (f:=Ins.cells) (fun _=>by rfl)|(simp[AV.l1,AV.la,AV.l0];done)|(refine cw ?_ ?_ ?_<;>(try dsimp only)<;>omega)|exact congrArg (AV.int .i64) cS));done)|fail):P:=h
theorem ab {P:Prop}(h:P:=by first|((decide);done)|fail):P:=h
theorem zn {P:Prop}(h:P:=by first|(((repeat' first|exact True.intro|apply And.intro|rfl|exact jD (FH hmkl)|exact jD vW|exact gE xc|exact jD aB|exact gE aB|exact jD yk|exact gE ym|exact vV|exact mc|exact congrArg (fun v=>an.arr 2 [[i64 k,v]]) (dW aB aB ag aB)|exact dW aB aB ag aB|exact eS aB (gl (f:=Ins.cells) (fun _=>by rfl) aB ag)|exact dZ (f:=Ins.cells) (fun _=>by rfl)|exact cX (f:=Ins.cells) (fun _=>by rfl)|(refine cw ?_ ?_ ?_<;>(try dsimp only)<;>omega)|exact congrArg (AV.int .i64) cS));done)|fail):P:=h
theorem jk {P:Prop}(h:P:=by first|((simp only[length_cons,length_append,length_nil];(try simp only[length_take,length_drop] at hl);omega);done)|fail):P:=h
theorem cS {P:Prop}(h:P:=by first|(((try dsimp only);omega);done)|fail):P:=h
theorem bG {P:Prop}(h:P:=by first|(((dsimp only);omega);done)|fail):P:=h
theorem aG {P:Prop}(h:P:=by first|((kernel_rfl);done)|fail):P:=h
theorem gH {P:Prop}(h:P:=by first|((simp only[length_cons,length_append,length_nil] at ha ⊢;omega);done)|fail):P:=h
theorem vr {P:Prop}(h:P:=by first|((first|exact kb aa |>.trans (ju (by rw[hs.len];omega))|exact kK aa rfl ((kb aa).trans (ju (by rw[hs.len];omega)))|exact kK aa rfl (kK aa rfl ((kb aa).trans (ju (by rw[hs.len];omega))))|exact kK aa rfl (kK aa rfl (kK aa rfl ((kb aa).trans (ju (by rw[hs.len];omega))))));done)|fail):P:=h
theorem Nl {P:Prop}(h:P:=by first|(((conv=>whnf);(repeat' first|exact True.intro|apply And.intro|rfl|exact gE aB|exact mc|exact dW aB aB ag aB|exact eS aB (gl (f:=ic) (fun _=>by rfl) aB ag)|exact dZ (f:=ic) (fun _=>by rfl)|exact cX (f:=ic) (fun _=>by rfl)|(simp[AV.l1,AV.la,AV.l0];done)|(refine cw ?_ ?_ ?_<;>(try dsimp only)<;>omega)|exact congrArg (AV.int .i64) cS));done)|fail):P:=h
theorem mF {P:Prop}(h:P:=by first|((have:=i_len;simp only[length_cons,length_map,length_nil] at this ⊢;omega);done)|fail):P:=h
theorem im {P:Prop}(h:P:=by first|((have:=hat2 _ (getElem_mem (by omega:j.1<(aX g k).length));omega);done)|fail):P:=h
theorem ag {P:Prop}(h:P:=by first|((simp);done)|fail):P:=h
theorem tf {P:Prop}(h:P:=by first|((first|exact fh (l:=bm (bO q tl) c.b.l[n].ins.l y) (n:=(y:Int)) aa|exact fh (l:=tl) (f:=ic) (by have:=hpat aa;omega)|exact sB ag tz|exact sF ez hq);done)|fail):P:=h
theorem Eb {P:Prop}(h:P:=by first|(((repeat' first|exact True.intro|apply And.intro|rfl|exact jD vW|exact gE xc|exact jD aB|exact gE aB|exact jD yk|exact gE ym|exact vV|exact mc|exact congrArg (fun v=>an.arr 2 [[i64 k,v]]) (dW aB aB ag aB)|exact dW aB aB ag aB|exact eS aB (gl (f:=Ins.cells) (fun _=>by rfl) aB ag)|exact dZ (f:=Ins.cells) (fun _=>by rfl)|exact cX (f:=Ins.cells) (fun _=>by rfl)|(refine cw ?_ ?_ ?_<;>(try dsimp only)<;>omega)|exact congrArg (AV.int .i64) cS));done)|fail):P:=h
theorem Nn {P:Prop}(h:P:=by first|(((conv=>whnf);(repeat' first|exact True.intro|apply And.intro|rfl|exact dW aB aB ag aB|exact eS aB (gl (f:=db) (fun _=>by rfl) aB ag)|exact dZ (f:=db) (fun _=>by rfl)|exact cX (f:=db) (fun _=>by rfl)|(simp[AV.l1,AV.la,AV.l0];done)|(refine cw ?_ ?_ ?_<;>(try dsimp only)<;>omega)|exact congrArg (AV.int .i64) cS));done)|fail):P:=h
theorem zr {P:Prop}(h:P:=by first|(((repeat' first|exact True.intro|apply And.intro|rfl|exact qB (s:=2) rfl|exact qB (s:=2) (by rw[<-Jw hnl hnq (by rw[CM hins])];congr 1;simp)|exact xY (s:=2)|exact dZ (sz:=1) (f:=ic) (fun _=>by rfl)|exact cX (sz:=1) (f:=ic) (fun _=>by rfl)|(refine cw ?_ ?_ ?_<;>(try dsimp only)<;>omega)|exact congrArg (AV.int .i64) cS));done)|fail):P:=h
theorem gW {P:Prop}(h:P:=by first|((simp only[length_cons,length_map,length_nil];omega);done)|fail):P:=h
theorem bA {P:Prop}(h:P:=by first|((assumption);done)|fail):P:=h
theorem zt {P:Prop}(h:P:=by first|(((repeat' (first|exact jH|(refine jG (x:=?_) ?_ ?_ ?_ ?_ ?_ ?_;rotate_left;exact rfl;exact rfl;exact rfl;(first|exact mw|(refine mu ?_ ?_<;>first|rfl|omega)|(refine qu ?_;exact(Wn hj).symm)|rfl);(first|exact jP|(refine lH ?_ ?_<;>first|rfl|omega)|rfl)))));done)|fail):P:=h
theorem q0 {P:Prop}(h:P:=by first|(((repeat' first|exact True.intro|apply And.intro|rfl|(refine cw ?_ ?_ ?_<;>(try dsimp only)<;>omega)|exact congrArg (AV.int .i64) cS));done)|fail):P:=h
theorem zu {P:Prop}(h:P:=by first|(((repeat' first|exact True.intro|apply And.intro|rfl|exact qB (s:=2) rfl|exact xY (s:=2)|exact dZ (sz:=1) (f:=ic) (fun _=>by rfl)|exact cX (sz:=1) (f:=ic) (fun _=>by rfl)|(refine cw ?_ ?_ ?_<;>(try dsimp only)<;>omega)|exact congrArg (AV.int .i64) cS));done)|fail):P:=h
theorem Ed {P:Prop}(h:P:=by first|(((repeat' first|exact True.intro|apply And.intro|rfl|exact congrArg (fun x=>an.arr 8 [[_,_,_,_,_,_,_,x]]) (dW aB aB ag aB)|exact dW aB aB ag aB|exact eS aB (gl (f:=fun a:Int=>[i64 a]) (fun _=>by rfl) aB ag)|exact cX (f:=fun a:Int=>[i64 a]) (fun _=>by rfl)|(refine cw ?_ ?_ ?_<;>(try dsimp only)<;>omega)|(simp[AV.l1,AV.la,AV.l0];done)));done)|fail):P:=h
theorem Ee {P:Prop}(h:P:=by first|(((repeat' first|exact True.intro|apply And.intro|rfl|exact congrArg (fun x=>an.arr 1 [[x]]) (dW aB aB ag aB)|exact dW aB aB ag aB|exact eS aB (gl (f:=fun a:Int=>[i64 a]) (fun _=>by rfl) aB ag)|exact cX (f:=fun a:Int=>[i64 a]) (fun _=>by rfl)|(refine cw ?_ ?_ ?_<;>(try dsimp only)<;>omega)|(simp[AV.l1,AV.la,AV.l0];done)));done)|fail):P:=h
theorem Ef {P:Prop}(h:P:=by first|(((repeat' (first|exact jH|(refine jG (x:=?_) ?_ ?_ ?_ ?_ ?_ ?_;rotate_left;exact rfl;exact rfl;exact rfl;(first|exact mw|(refine mu ?_ ?_<;>first|rfl|omega)|(refine qu ?_;exact(Jd).trans (VT hlt aa).symm)|rfl);(first|exact jP|(refine lH ?_ ?_<;>first|rfl|omega)|rfl)))));done)|fail):P:=h
theorem aB {P:Prop}(h:P:=by first|((rfl);done)|fail):P:=h
theorem Eg {P:Prop}(h:P:=by first|(((repeat' (first|exact jH|(refine jG (x:=?_) ?_ ?_ ?_ ?_ ?_ ?_;rotate_left;exact rfl;exact rfl;exact rfl;(first|exact mw|(refine mu ?_ ?_<;>first|rfl|omega)|(refine qu ?_;exact(W1 hi).symm)|rfl);(first|exact jP|(refine lH ?_ ?_<;>first|rfl|omega)|rfl)))));done)|fail):P:=h
theorem o8 {P:Prop}(h:P:=by first|((have:=y_len;simp only[length_cons,length_map,length_nil] at this ⊢;omega);done)|fail):P:=h
theorem dC {P:Prop}(h:P:=by first|((dsimp only;omega);done)|fail):P:=h
theorem aY {P:Prop}(h:P:=by first|((grind);done)|fail):P:=h
theorem iq {P:Prop}(h:P:=by first|(((intro j o hj hg0;(exact vp)));done)|fail):P:=h
theorem zv {P:Prop}(h:P:=by first|((show(y::(acc++[4,4])).length=s.length;simp only[length_cons,length_append,length_nil];(try simp only[length_take,length_drop] at hl);omega);done)|fail):P:=h
theorem kU {P:Prop}(h:P:=by first|(((first|rfl|((try simp only[rz]);omega)));done)|fail):P:=h
theorem zx {P:Prop}(h:P:=by first|((have:=z_len;simp only[length_cons,length_map,length_nil] at this ⊢;omega);done)|fail):P:=h
theorem No {P:Prop}(h:P:=by first|(((repeat' first|exact True.intro|apply And.intro|rfl|exact congrArg (AV.int .i64) (congrArg (fun k:Nat=>(k:Int)) (length_map _))|(refine cw ?_ ?_ ?_<;>(try dsimp only)<;>omega)|exact congrArg (AV.int .i64) cS));done)|fail):P:=h
theorem th {P:Prop}(h:P:=by first|((simp only[length_cons,length_append,length_nil] at zhl ⊢;omega);done)|fail):P:=h
theorem Ei {P:Prop}(h:P:=by first|((((conv=>whnf);(repeat' first|exact True.intro|apply And.intro|rfl|exact congrArg (AV.int .i64) (by((try dsimp only);first|rfl|(rw[aF aa aa];done)|omega|(rw[aF aa aa];omega))));done));done)|fail):P:=h
theorem ez {P:Prop}(h:P:=by first|((simp;omega);done)|fail):P:=h
theorem tj {P:Prop}(h:P:=by first|((have:=F3 (f.cz.take i);simp only[length_take] at this;omega);done)|fail):P:=h
theorem jz {P:Prop}(h:P:=by first|(((conv=>whnf);(exact Ej));done)|fail):P:=h
theorem q9 {P:Prop}(h:P:=by first|((simp only[length_cons,length_map] at *;omega);done)|fail):P:=h
theorem mG {P:Prop}(h:P:=by first|((simp only[length_map];omega);done)|fail):P:=h
theorem tr {P:Prop}(h:P:=by first|((first|exact⟨by omega,by omega⟩|(show n+1≤_;omega));done)|fail):P:=h
theorem o9 {P:Prop}(h:P:=by first|(((first|omega|(have hpa:=hpat aa;omega)));done)|fail):P:=h
theorem q_ {P:Prop}(h:P:=by first|((first|(simp;done)|(simp;omega));done)|fail):P:=h
theorem zy {P:Prop}(h:P:=by first|((simp only[length_cons];first|omega|(simp only[length_take,length_drop] at hl;omega));done)|fail):P:=h
theorem kV {P:Prop}(h:P:=by first|(((conv=>whnf);(exact Ec));done)|fail):P:=h
theorem tt {P:Prop}(h:P:=by first|(((try simp only[length_cons,length_nil]);omega);done)|fail):P:=h
theorem fo {P:Prop}(h:P:=by first|(((exact zc));done)|fail):P:=h
theorem zz {P:Prop}(h:P:=by first|((have:=hat2 _ (getElem_mem (by omega:j.1<(aX g k).length));rw[hs.len];omega);done)|fail):P:=h
theorem zA {P:Prop}(h:P:=by first|(((first|rfl|((try simp only[rz]);(first|omega|(have hpa:=hpat aa;omega)))));done)|fail):P:=h
theorem jl {P:Prop}(h:P:=by first|((rw[hyl];exact h);done)|fail):P:=h
theorem mH {P:Prop}(h:P:=by first|((have:=hlenall n aa;omega);done)|fail):P:=h
theorem zB {P:Prop}(h:P:=by first|((rw[UE hl2 hkx];first|rfl|(simp_all;done)|(simp_all[dy];done));done)|fail):P:=h
theorem Np {P:Prop}(h:P:=by first|(((dsimp only);rw[qW aa,<-hm];rfl);done)|fail):P:=h
theorem mI {P:Prop}(h:P:=by first|((have:=hLr2 j aa;omega);done)|fail):P:=h
theorem zC {P:Prop}(h:P:=by first|(((first|omega|(simp only[length_take,length_drop];omega)));done)|fail):P:=h
theorem zD {P:Prop}(h:P:=by first|((show(y::acc).length=s.length;simp only[length_cons];omega);done)|fail):P:=h
theorem tu {P:Prop}(h:P:=by first|(((try simp only[length_cons]);omega);done)|fail):P:=h
theorem vt {P:Prop}(h:P:=by first|(((intro j o hj hg0;rw[hy2] at hg0;(exact vp)));done)|fail):P:=h
theorem El {P:Prop}(h:P:=by first|((rw[Sp aa (by intro hh;first|exact absurd hh.1 bA|exact absurd hh.2 bA),<-hz]);done)|fail):P:=h
theorem vu {P:Prop}(h:P:=by first|(((try simp only[length_map] at *)<;>omega);done)|fail):P:=h
theorem tz {P:Prop}(h:P:=by first|((simp only[XH,XI];omega);done)|fail):P:=h
theorem o_ {P:Prop}(h:P:=by first|(((conv=>whnf);(exact Ek));done)|fail):P:=h
theorem pd {P:Prop}(h:P:=by first|(((conv=>whnf);(exact Eh));done)|fail):P:=h
theorem ir {P:Prop}(h:P:=by first|((simp[cu]);done)|fail):P:=h
theorem zE {P:Prop}(h:P:=by first|((rw[hwl bA];have:=hp bA;simp only[qO];omega);done)|fail):P:=h
end Go.Ago
section
namespace Go.Ago
open List Nat
inductive AV where
 | any
 | bool (b:Bool)
 | int (k:IntKind) (n:Int)
 | str (l:List UInt8)
 | dF
 | ptr (k i off:Nat)
 | bq (cs:List AV)
 | ah
 | cW
 | az (k i len sz:Nat)
 | ak (sz:Nat) (es:List (List AV))
 | fO
 | fT (k:Nat)
 | cY (k:Nat)
 | cK (es:List (Int×AV))
 | fn (f:Fn) (first cap:List AV)
 | cZ
 | cG (t:TypeId) (v:AV)
 | eH
 | agg (cs:List AV)
 | ao (vs:List AV)
 deriving Inhabited
def AV.one:AV->Bool
 | .any | .agg _ | .ao _=>false
 | _=>true
def AV.cells:AV->List AV
 | .agg a=>a
 | v=>[v]
inductive Tr (α:Type) where
 | nil
 | node (l:Tr α) (x:Option α) (r:Tr α)
 | put (k:Nat) (v:Option α) (t:Tr α)
 | fq (A N:Nat) (g:Nat->Option α) (t:Tr α)
 deriving Inhabited
namespace Tr
variable {α:Type}
def get:Tr α->Nat->Option α
 | .nil,_=>none
 | .node l x r,n=>bif n == 0 then x else bif n % 2 == 1 then l.get (n / 2) else r.get (n / 2 - 1)
 | .put k v t,n=>bif beq n k then v else t.get n
 | .fq A N g t,n=>bif ble A n && blt n (A+N) then g (n - A) else t.get n
def ins:Nat->Nat->Option α->Tr α->Tr α
 | 0,_,_,t=>t
 | d+1,n,y,.nil=>bif n == 0 then .node .nil y .nil else bif n % 2 == 1 then .node (ins d (n / 2) y .nil) none .nil else .node .nil none (ins d (n / 2 - 1) y .nil)
 | _+1,n,y,.put k v t => .put n y (.put k v t)
 | _+1,n,y,.fq A N g t => .put n y (.fq A N g t)
 | d+1,n,y,.node l x r=>bif n == 0 then .node l y r else bif n % 2 == 1 then .node (ins d (n / 2) y l) x r else .node l x (ins d (n / 2 - 1) y r)
theorem Sf (d:Nat):∀(n:Nat) (y:Option α) (t:Tr α) (m:Nat),n+1<2 ^ d->(t.ins d n y).get m=if m=n then y else t.get m:=by
 induction d with
 | zero=>simp
 | succ d C =>
   intro n y t m h;have G:n+1<2 * 2 ^ d:=by rw[Nat.pow_succ] at h;omega
   have z:∀(l r:Tr α) (x:Option α),(Tr.ins (d+1) n y (.node l x r)).get m=if m=n then y else (Tr.node l x r).get m:=by
    intro l r x
    by_cases u:n=0
    . subst u
      by_cases f:m=0
      . subst f;rfl
      . have : (m == 0) = false := by simpa using f
        simp[ins,get,f,this]
    . have p : (n == 0) = false := by simpa using u
      by_cases s:n % 2=1
      . have i : (n % 2 == 1) = true := by simpa using s
        by_cases f:m=0
        . subst f
          have:¬0=n:=fun e=>u e.symm
          simp[ins,get,p,i,this]
        . have q : (m == 0) = false := by simpa using f
          by_cases b:m % 2=1
          . have a : (m % 2 == 1) = true := by simpa using b
            have w:=C (n / 2) y l (m / 2) aa;have c:(m / 2=n / 2)↔m=n:=by constructor<;>intro E<;>omega
            simp only[ins,get,p,i,q,a,cond_true,cond_false,w,c]
          . have a : (m % 2 == 1) = false := by simpa using b
            have o:¬m=n:=by intro e;subst e;exact b s
            simp[ins,get,p,i,q,a,o]
      . have i : (n % 2 == 1) = false := by simpa using s
        by_cases f:m=0
        . subst f
          have:¬0=n:=fun e=>u e.symm
          simp[ins,get,p,i,this]
        . have q : (m == 0) = false := by simpa using f
          by_cases b:m % 2=1
          . have a : (m % 2 == 1) = true := by simpa using b
            have o:¬m=n:=by intro e;subst e;exact s b
            simp[ins,get,p,i,q,a,o]
          . have a : (m % 2 == 1) = false := by simpa using b
            have w:=C (n / 2 - 1) y r (m / 2 - 1) aa;have c:(m / 2 - 1=n / 2 - 1)↔m=n:=by constructor<;>intro E<;>omega
            simp only[ins,get,p,i,q,a,cond_false,w,c]
   cases t with
   | node l x r=>grind
   | put k v t =>
     simp only[ins];rw[get];simp
   | fq A N g t =>
     simp only[ins];rw[get];simp
   | nil =>
     have:=z .nil .nil none;have i:Tr.ins (d+1) n y (.node .nil none .nil)=Tr.ins (d+1) n y .nil:=by
      simp only[ins]
     have F:(Tr.node .nil none .nil:Tr α).get m=(Tr.nil:Tr α).get m:=by
      simp only[get];cases (m == 0)<;>cases (m % 2 == 1)<;>rfl
     grind
def set (_:Nat)(n:Nat)(y:Option α)(t:Tr α):Tr α := .put n y t
theorem eP (d:Nat)(n:Nat)(y:Option α)(t:Tr α)(m:Nat)(_:n+1<2 ^ d):(t.set d n y).get m=if m=n then y else t.get m:=by
 show(Tr.put n y t).get m=_;rw[get];simp
end Tr
inductive an where
 | arr (sz:Nat) (es:List (List AV))
 | dG (s:List UInt8) (pos:Nat)
 | lp (st:LoopState) (pend:Option Code) (sl:List (Nat×AV)) (bF:Nat) (code:Code)
 | mp (es:List (Int×AV))
 | cm (cur:Option (Int×AV)) (es:List (Int×AV))
 deriving Inhabited
abbrev ai:=Tr an
structure fp where
 b:Nat
 s:Nat
 n:Nat
 sz:Nat
structure Ctx where
 f:Nat->Option fp
 au:Nat->Prop
structure Ctx.le (c c':Ctx):Prop where
 f:∀k p,c.f k=some p->c'.f k=some p
 au:∀b,c.au b->c'.au b
def Ctx.bare (c:Ctx):Ctx:=⟨fun _=>none,c.au⟩
theorem Ctx.ER (c:Ctx):c.bare.le c:=⟨fun _ _ h=>(by cases h),fun _ h=>h⟩
theorem Ctx.le.bare {c c':Ctx}(h:c.le c'):c.bare.le c'.bare:=⟨fun _ _ h=>(by cases h),h.au⟩
theorem Ctx.le.refl (c:Ctx):c.le c:=⟨fun _ _ h=>h,fun _ h=>h⟩
theorem Ctx.le.trans {a b c:Ctx}(h:a.le b)(d:b.le c):a.le c:=⟨fun k p e=>d.f k p (h.f k p e),fun k e=>d.au k (h.au k e)⟩
structure pA (mes:Array MapEntry)(clock:Nat):Prop where
 lt:∀e∈mes.toList,e.born<clock
 nd:(mes.toList.map (·.born)).Nodup
def cu (es:List (Int×AV)):Prop:=(es.map (·.1)).Pairwise (·<·)
inductive Rel:Ctx->World->AV->Value->Prop where
 | any {c:Ctx} {w:World} (v:Value):Rel c w .any v
 | bool {c:Ctx} {w:World} (b:Bool):Rel c w (.bool b) (.bool b)
 | int {c:Ctx} {w:World} (k:IntKind) (n:Int):Rel c w (.int k n) (.int k n)
 | str {c:Ctx} {w:World} (l:List UInt8):Rel c w (.str l) (.string ⟨l.toArray⟩)
 | dF {c:Ctx} {w:World}:Rel c w .dF (.pointer none)
 | ptr {c:Ctx} {w:World} {k i off:Nat} {B:fp} (h:c.f k=some B):Rel c w (.ptr k i off) (.pointer (some ⟨B.b,B.s+(i * B.sz+off),none⟩))
 | bq {c:Ctx} {w:World} {cs:List AV} {a:Addr} {vs:List Value} (hi:c.au a.block) (hl:cs.length=vs.length) (hc:∀(i:Nat) v,vs[i]? = some v->w.cell? (a.add i)=some v)
  (hr:∀(i:Nat) x v,cs[i]? = some x->vs[i]? = some v->Rel c.bare w x v):Rel c w (.bq cs) (.pointer (some a))
 | ah {c:Ctx} {w:World}:Rel c w .ah (.slice none 0 0)
 | cW {c:Ctx} {w:World} (a:Addr):Rel c w .cW (.slice (some a) 0 0)
 | az {c:Ctx} {w:World} {k i len sz cap:Nat} {B:fp} {a:Addr} (h:c.f k=some B) (hsz:B.sz=sz) (hlen:len≤cap) (hcap:0<cap->a=⟨B.b,B.s+i * sz,none⟩∧(i+cap) * sz≤B.n) (hmax:cap≤9223372036854775807) :
  Rel c w (.az k i len sz) (.slice (some a) len cap)
 | ak {c:Ctx} {w:World} {sz:Nat} {es:List (List AV)} {cap:Nat} {a:Addr} (vs:Nat->Nat->Value) (hlen:es.length≤cap) (hi:0<es.length->c.au a.block) (hl:∀(i:Nat) e,es[i]? = some e->e.length=sz)
  (hc:∀(i j:Nat),i<es.length->j<sz->w.cell? (a.add (i * sz+j))=some (vs i j)) (hr:∀(i j:Nat) e x,es[i]? = some e->e[j]? = some x->Rel c.bare w x (vs i j)) :
  Rel c w (.ak sz es) (.slice (some a) es.length cap)
 | fk {c:Ctx} {w:World} (sz:Nat):Rel c w (.ak sz []) (.slice none 0 0)
 | iB {c:Ctx} {w:World}:Rel c w .cW (.slice none 0 0)
 | fO {c:Ctx} {w:World}:Rel c w .fO (.map none)
 | fT {c:Ctx} {w:World} {k:Nat} {B:fp} (h:c.f k=some B):Rel c w (.fT k) (.func (.yield B.b) #[] #[])
 | cY {c:Ctx} {w:World} {k:Nat} {B:fp} (h:c.f k=some B):Rel c w (.cY k) (.map (some B.b))
 | cK {c:Ctx} {w:World} {es:List (Int×AV)} {r clock:Nat} {mes:Array MapEntry} (f:Int->MapEntry) (hi:c.au r) (hm:w.heap[r]? = some (.map mes clock)) (hb:pA mes clock) (hs:cu es)
  (hf:∀k x,(k,x)∈es->f k∈mes.toList∧(f k).key = .int .i64 k) (he:∀e∈mes.toList,∃k x,(k,x)∈es∧e=f k) (hr:∀k x,(k,x)∈es->Rel c.bare w x (f k).val):Rel c w (.cK es) (.map (some r))
 | fn {c:Ctx} {w:World} (f:Fn) {xs ys:List AV} {vs us:List Value} (h1:xs.length=vs.length) (h2:ys.length=us.length)
  (hr1:∀(i:Nat) x v,xs[i]? = some x->vs[i]? = some v->Rel c w x v) (hr2:∀(i:Nat) x v,ys[i]? = some x->us[i]? = some v->Rel c w x v):Rel c w (.fn f xs ys) (.func f vs.toArray us.toArray)
 | cZ {c:Ctx} {w:World}:Rel c w .cZ .nilFunc
 | cG {c:Ctx} {w:World} (t:TypeId) {x:AV} {v:Value} (h:Rel c w x v):Rel c w (.cG t x) (.iface t v)
 | eH {c:Ctx} {w:World}:Rel c w .eH .nilIface
 | agg {c:Ctx} {w:World} {cs:List AV} {vs:List Value} (hl:cs.length=vs.length) (hr:∀(i:Nat) x v,cs[i]? = some x->vs[i]? = some v->Rel c w x v):Rel c w (.agg cs) (.agg vs.toArray)
 | ao {c:Ctx} {w:World} {cs:List AV} {vs:List Value} (hl:cs.length=vs.length) (hr:∀(i:Nat) x v,cs[i]? = some x->vs[i]? = some v->Rel c w x v):Rel c w (.ao cs) (.tuple vs.toArray)
def aQ (c:Ctx)(w:World)(xs:List AV)(vs:List Value):Prop:=xs.length=vs.length∧∀(i:Nat) x v,xs[i]? = some x->vs[i]? = some v->Rel c w x v
section
variable {c c':Ctx} {w w':World}
theorem wi {w w':World}{a:Addr}(h:w'.heap[a.block]? = w.heap[a.block]?):w'.cell? a=w.cell? a:=by
 unfold World.cell?;rw[h]
theorem block_add (a:Addr)(n:Nat):(a.add n).block=a.block:=by unfold Addr.add;grind
theorem Rel.mono {x:AV}{v:Value}(h:Rel c w x v)(d:c.le c')(o:∀b,c.au b->w'.heap[b]? = w.heap[b]?):Rel c' w' x v:=by
 induction h generalizing c' with
 | any v=>exact .any v
 | bool b=>exact .bool b
 | int k n=>exact .int k n
 | str l=>exact .str l
 | dF=>exact .dF
 | ptr h=>exact .ptr (d.f _ _ h)
 | bq r q D A g=>exact .bq (d.au _ r) q (fun i v e=>(wi (by rw[block_add];grind)).trans (D i v e)) (fun i x v e p=>g i x v e p d.bare o)
 | ah=>exact .ah
 | cW a=>exact .cW a
 | az h E m z u=>exact .az (d.f _ _ h) E m z u
 | ak T m r q D A g=>exact .ak T m (fun h=>d.au _ (r h)) q (fun i j s y=>(wi (by rw[block_add];grind)).trans (D i j s y)) (fun i j e x s y=>g i j e x s y d.bare o)
 | fk Q=>exact .fk Q
 | iB=>exact .iB
 | fO=>exact .fO
 | fT h=>exact .fT (d.f _ _ h)
 | cY h=>exact .cY (d.f _ _ h)
 | cK f r W X Y Z he A g=>exact .cK f (d.au _ r) ((o _ r).trans W) X Y Z he (fun k x e=>g k x e d.bare o)
 | fn f s y hr1 hr2 C F=>exact .fn f s y (fun i x v e p=>C i x v e p d o) (fun i x v e p=>F i x v e p d o)
 | cZ=>exact .cZ
 | cG t h g=>exact .cG t (g d o)
 | eH=>exact .eH
 | agg q A g=>exact .agg q (fun i x v e p=>g i x v e p d o)
 | ao q A g=>exact .ao q (fun i x v e p=>g i x v e p d o)
theorem aQ.mono {xs:List AV}{vs:List Value}(h:aQ c w xs vs)(a:c.le c')(f:∀b,c.au b->w'.heap[b]? = w.heap[b]?):aQ c' w' xs vs:=
 ⟨h.1,fun i x v e d=>(h.2 i x v e d).mono a f⟩
theorem Rel.oL {x:AV}{v:Value}(h:Rel c.bare w x v):Rel c w x v:=h.mono c.ER (ag)
theorem aQ.oL {x:List AV}{v:List Value}(h:aQ c.bare w x v):aQ c w x v:=h.mono c.ER (ag)
theorem aQ.nil:aQ c w [] []:=⟨rfl,fun i x v e=>ag⟩
theorem aQ.cons {x:AV}{v:Value}{xs:List AV}{vs:List Value}(h:Rel c w x v)(b:aQ c w xs vs):aQ c w (x::xs) (v::vs):=
 ⟨by simp[b.1],fun i y u e f=>by
  cases i with
  | zero=>grind
  | succ i=>exact b.2 i y u aY aY⟩
theorem aQ.dT {x:AV}{xs:List AV}{vs:List Value}(h:aQ c w (x::xs) vs):∃v us,vs=v::us∧Rel c w x v∧aQ c w xs us:=by
 cases vs with
 | nil=>have:=h.1;grind
 | cons v us=>exact⟨v,us,rfl,h.2 0 x v rfl rfl,by have:=h.1;grind,fun i y u e d=>h.2 (i+1) y u aY aY⟩
theorem aQ.fY {vs:List Value}(h:aQ c w [] vs):vs=[]:=by
 have:=h.1
 grind
theorem aQ.append {xs ys:List AV}{vs us:List Value}(h:aQ c w xs vs)(d:aQ c w ys us):aQ c w (xs++ys) (vs++us):=
 ⟨by simp[h.1,d.1],fun i x v e a=>by
  by_cases b:i<xs.length
  . rw [getElem?_append_left b] at e
    rw[getElem?_append_left (by rw[<-h.1];exact b)] at *
    exact h.2 i x v e a
  rw[getElem?_append_right aa] at e;rw[getElem?_append_right (by rw[<-h.1];omega),<-h.1] at a
  exact d.2 _ x v e a⟩
theorem aQ.drop {xs:List AV}{vs:List Value}(h:aQ c w xs vs)(n:Nat):aQ c w (xs.drop n) (vs.drop n):=
 ⟨by simp[h.1],fun i x v e a=>h.2 (n+i) x v aY aY⟩
theorem aQ.take {xs:List AV}{vs:List Value}(h:aQ c w xs vs)(n:Nat):aQ c w (xs.take n) (vs.take n):=
 ⟨by simp[h.1],fun i x v e a=>by
  by_cases b:i<n
  . simp_all;exact h.2 i x v e a
  grind⟩
theorem aQ.get {xs:List AV}{vs:List Value}(h:aQ c w xs vs){i:Nat}{x:AV}(e:xs[i]? = some x):∃v,vs[i]? = some v∧Rel c w x v:=by
 have b:=(List.getElem?_eq_some_iff.1 e).1;have a:i<vs.length:=by rw[<-h.1];exact b
 exact⟨vs[i],getElem?_eq_getElem _,h.2 i x _ e (ag)⟩
theorem aQ.set {xs:List AV}{vs:List Value}(h:aQ c w xs vs){x:AV}{v:Value}(d:Rel c w x v)(i:Nat):aQ c w (xs.set i x) (vs.set i v):=
 ⟨by simp[h.1],fun j y u e a=>by
  by_cases b:i=j
  . grind
  . simp_all;exact h.2 j y u e a⟩
theorem Rel.cells {x:AV}{v:Value}(h:Rel c w x v)(a:x.one=true∨∃cs,x = .agg cs):aQ c w x.cells v.cells.toList:=by
 rcases a with a|⟨cs,rfl⟩
 . have d : x.cells = [x] := by cases x <;> simp_all [AV.one, AV.cells]
   have g:v.cells=#[v]:=by cases h<;>simp_all[AV.one,Value.cells]
   rw[d,g];exact .cons h .nil
 . cases h with
   | agg k f=>exact⟨by assumption,fun i x v e j=>f i x v bA bA⟩
theorem Rel.Wf {x:AV}{v:Value}(h:Rel c w x v)(a:x.one=true):(∀cs,v≠.agg cs)∧(∀cs,v≠.tuple cs):=by
 cases h<;>simp_all[AV.one]
end
end Go.Ago
end
