/-
  Part B01: lemmas, each with its own conditions.
-/
import Derived.ProofKit
import Derived.Below
import Derived.Calls
import Derived.Laws.CopyRow
import Derived.Laws.Cells
import Derived.Laws.Entries
import Derived.Laws.NewBlocks
set_option maxRecDepth 100000
set_option maxHeartbeats 0
set_option linter.all false
namespace Go.Ago
open List Nat
def za9:=@getElem_mem
def zba:=@length_map
def zbb:=@le_of_ble_eq_true
def zbc:=@congrArg
def zbd:=@length_cons
def zbe:=@Bool.and_eq_true
def zbf:=@getElem?_eq_getElem
def zbg:=@Option.some.injEq
def zbh:=@eq_nil_of_length_eq_zero
def zbi:=@take_succ_eq_append_getElem
def zbj:=@take_of_length_le
def zbk:=@length_append
def zbl:=@eq_of_beq_eq_true
def zbm:=@Nat.le_refl
def zbn:=@List.getElem?_eq_some_iff
def zbo:=@mem_iff_getElem
def zbp:=@length_nil
def zbq:=@zero_le
def zbr:=@all_eq_true
def zbs:=@ble_eq_true_of_le
def zbt:=@Int.toNat_natCast
def zbu:=@Nat.le_trans
def zbv:=@getElem?_append_right
def zbw:=@Classical.choose_spec
def zbx:=@mul_le_mul_right
def zby:=@mem_of_getElem?
def zbz:=@decide_eq_true_eq
def zbA:=@length_take
def zbB:=@mem_cons
def zbC:=@getElem?_map
def zbD:=@getD_eq_getElem?_getD
def zbE:=@Option.some.inj
def zbF:=@decide_eq_true
def zbG:=@mem_map
def zbH:=@Bool.false_eq_true
def zbI:=@Nat.lt_or_ge
def zbJ:=@Nat.lt_of_lt_of_le
def zbK:=@not_lt_zero
def zbL:=@mem_append
def zbM:=@getElem?_append_left
def zbN:=@cond_true
def zbO:=@mem_cons_of_mem
def zbP:=@length_set
def zbQ:=@Bool.or_eq_true
def zbR:=@getElem?_toArray
def zbS:=@Array.getElem?_eq_getElem
def zbT:=@decide_eq_false
def zbU:=@mem_singleton
def zbV:=@getElem?_set_ne
def zbW:=@Int.eq_ofNat_of_zero_le
def zbX:=@eq_zero_or_pos
def zbY:=@mem_filter
def zbZ:=@map_congr_left
def zb0:=@cond_false
def zb1:=@beq_iff_eq
def zb2:=@not_mem_nil
def zb3:=@getElem?_cons_zero
def zb4:=@Bool.not_eq_true'
def zb5:=@filter_append
def zb6:=@Array.getElem?_eq_some_iff
def zb7:=@take_append_drop
def zb8:=@if_false
def zb9:=@map_append
def zca:=@or_false
def zcb:=@Option.getD_some
def zcc:=@length_drop
def zcd:=@Array.ext'
def zce:=@Nat.zero_add
def zcf:=@mem_range
def zcg:=@getElem?_replicate
def zch:=@append_assoc
def zci:=@getElem?_set_self
def zcj:=@Array.getD_eq_getD_getElem?
def zck:=@mem_cons_self
def zcl:=@getElem_map
def zcm:=@length_replicate
def zcn:=@Option.map_some
def zco:=@le_add_right
def zcp:=@beq_eq_false_iff_ne
def zcq:=@map_cons
def zcr:=@drop_eq_getElem_cons
def zcs:=@Nat.add_mul
def zct:=@Exists.elim
def zcu:=@Option.map_eq_some_iff
def zcv:=@getElem_of_mem
def zcw:=@Nat.min_eq_left
def zcx:=@ext_getElem
def zcy:=@size_toArray
def zcz:=@map_map
def zcA:=@Function.comp_def
def zcB:=@Nat.sub_self
def zcC:=@getElem_append_right
def zcD:=@map_set
def zcE:=@eq_nil_iff_forall_not_mem
def zcF:=@getElem?_drop
def zcG:=@getElem!_pos
def zcH:=@getElem?_cons_succ
def zcI:=@take_length
def zcJ:=@Array.getElem?_toList
def zcK:=@beq_refl
def zcL:=@getElem_singleton
def zcM:=@Array.getElem?_setIfInBounds
def zcN:=@mem_iff_getElem?
def zcO:=@Pairwise.sublist
def zcP:=@Function.comp_apply
def zcQ:=@Array.getElem?_push
def zcR:=@getElem?_take
def zcS:=@Int.toNat_zero
def zcT:=@Array.getElem?_append_left
def zcU:=@mem_of_mem_take
def zcV:=@drop_zero
def zcW:=@range_succ
def zcX:=@append_nil
def zcY:=@false_iff
def zcZ:=@decide_eq_false_iff_not
def zc0:=@Option.bind_some
def zc1:=@le_succ_of_le
def zc2:=@cons_append
def zc3:=@Array.getElem?_modify
def zc4:=@length_filter_le
def zc5:=@Bool.or_eq_false_iff
def zc6:=@BitVec.ofInt_natCast
def zc7:=@take_sublist
def zc8:=@getElem?_set
def zc9:=@mem_append_left
def zda:=@Int.toNat_of_nonneg
def zdb:=@Prod.mk.injEq
def zdc:=@Bool.true_and
def zdd:=@Int.natCast_nonneg
def zde:=@Bool.not_eq_false'
def zdf:=@BitVec.ofNat_toNat
theorem lO {P:Prop}(h:P:=by first|(((repeat' first|exact True.intro|apply And.intro|rfl|(refine SB ?_ ?_ ?_ ?_ ?_<;>first|rfl|exact dX aB aB ag aB|((try dsimp only);(try simp only[zbd,zbk,zbp]);first|rfl|(rw[aE aa aa];done)|((try rw[aE aa aa]);(try simp only[NH,Gk]);first|rfl|(simp only[vv,uj,w0,w1,w2,d0,d1,d2,wn,dn, *,ne_eq,not_false_eq_true];omega)|omega|(simp only[zbd,zbk,zbp];omega))))|exact dX aB aB ag aB|exact e_ aB (gM (f:=dV) (fun _=>by rfl) aB ag)|exact e_ aB (yJ (f:=dV) (fun _=>by rfl))|exact c_ (f:=dV) (fun _=>by rfl)|exact zbc (AV.int .i64) (by(try dsimp only);((try dsimp only);(try simp only[zbd,zbk,zbp]);first|rfl|(rw[aE aa aa];done)|((try rw[aE aa aa]);(try simp only[NH,Gk]);first|rfl|(simp only[vv,uj,w0,w1,w2,d0,d1,d2,wn,dn, *,ne_eq,not_false_eq_true];omega)|omega|(simp only[zbd,zbk,zbp];omega))))|(simp[AV.l1,AV.la,AV.l0];done)));done)|fail):P:=h
theorem zE {P:Prop}(h:P:=by first|(((repeat' (first|exact FQ|(refine FP (x:=?_) ?_ ?_ ?_ ?_;rotate_left;exact rfl;((conv=>rhs;whnf)<;>(first|(refine Y3 (qC ?_);exact rfl)|(refine JU (qC ?_);exact rfl)|rfl|(refine zbc (AV.int IntKind.i64) ?_;(try dsimp only);refine(aE aa aa).trans ?_;omega)));(first|(refine Y4 ?_;exact rfl)|(refine JV ?_;exact rfl)|rfl)))));done)|fail):P:=h
theorem aa {P:Prop}(h:P:=by first|((omega);done)|fail):P:=h
theorem gz {P:Prop}(h:P:=by first|(((repeat' first|exact True.intro|apply And.intro|rfl|exact dX aB aB ag aB|exact e_ aB (gM (f:=fun n:Int=>[AV.int .u8 n]) (fun _=>by rfl) aB ag)|exact e_ aB (yJ (f:=fun n:Int=>[AV.int .u8 n]) (fun _=>by rfl))|exact c_ (f:=fun n:Int=>[AV.int .u8 n]) (fun _=>by rfl)|(refine cw ?_ ?_ ?_<;>(try dsimp only)<;>omega)|(simp[AV.l1,AV.la,AV.l0];done)));done)|fail):P:=h
theorem Ev {P:Prop}(h:P:=by first|(((repeat' first|exact True.intro|apply And.intro|rfl|(refine W7 ?_ ?_<;>first|rfl|((try dsimp only);first|rfl|(rw[aE aa aa];done)|omega|(rw[aE aa aa];omega)))|exact dX aB aB ag aB|exact e_ aB (gM (f:=gC) (fun _=>by rfl) aB ag)|exact e_ aB (yJ (f:=gC) (fun _=>by rfl))|exact c_ (f:=gC) (fun _=>by rfl)|exact zbc (AV.int .i64) (by(try dsimp only);((try dsimp only);first|rfl|(rw[aE aa aa];done)|omega|(rw[aE aa aa];omega)))|(simp[AV.l1,AV.la,AV.l0];done)));done)|fail):P:=h
theorem EA {P:Prop}(h:P:=by first|(((repeat' first|exact True.intro|apply And.intro|rfl|exact gE aB|exact mb|exact zbc (fun v=>an.arr 2 [[i64 kn,v]]) (dX aB aB tu aB)|exact dX aB aB tu aB|exact e_ aB (gM (f:=ic) (fun _=>by rfl) aB ag)|exact e_ aB (S5 (f:=Ins.cells) (fun _=>by rfl) ag)|exact eg (f:=ic) (fun _=>by rfl)|exact c_ (f:=ic) (fun _=>by rfl)|exact eg (f:=Ins.cells) (fun _=>by rfl)|exact c_ (f:=Ins.cells) (fun _=>by rfl)|(simp[AV.l1,AV.la,AV.l0];done)|(refine cw ?_ ?_ ?_<;>(try dsimp only)<;>omega)|exact zbc (AV.int .i64) cV));done)|fail):P:=h
theorem EC {P:Prop}(h:P:=by first|(((repeat' first|exact True.intro|apply And.intro|rfl|exact dX aB aB ag aB|exact e_ aB (gM (f:=ic) (fun _=>by rfl) aB ag)|exact eg (f:=ic) (fun _=>by rfl)|exact c_ (f:=ic) (fun _=>by rfl)|(simp[AV.l1,AV.la,AV.l0];done)|(refine cw ?_ ?_ ?_<;>(try dsimp only)<;>omega)|exact zbc (AV.int .i64) cV));done)|fail):P:=h
theorem nW {P:Prop}(h:P:=by first|(((conv=>whnf);(repeat' first|exact True.intro|apply And.intro|rfl|exact jG (FY hmkl)|exact jG we|exact gE xm|exact jG aB|exact gE aB|exact jG yw|exact gE yz|exact wc|exact mb|exact zbc (fun v=>an.arr 2 [[i64 k,v]]) (dX aB aB ag aB)|exact dX aB aB ag aB|exact e_ aB (gM (f:=Ins.cells) (fun _=>by rfl) aB ag)|exact eg (f:=Ins.cells) (fun _=>by rfl)|exact c_ (f:=Ins.cells) (fun _=>by rfl)|(simp[AV.l1,AV.la,AV.l0];done)|(refine cw ?_ ?_ ?_<;>(try dsimp only)<;>omega)|exact zbc (AV.int .i64) cV));done)|fail):P:=h
theorem zT {P:Prop}(h:P:=by first|((first|exact ke ik |>.trans (jy zN)|exact kL ik rfl ((ke ik).trans (jy zN))|exact kL ik rfl (kL ik rfl ((ke ik).trans (jy zN)))|exact kL ik rfl (kL ik rfl (kL ik rfl ((ke ik).trans (jy zN)))));done)|fail):P:=h
theorem nV {P:Prop}(h:P:=by first|(((repeat' first|exact True.intro|apply And.intro|rfl|exact dX aB aB ag aB|exact e_ aB (gM (f:=gC) (fun _=>by rfl) aB ag)|exact e_ aB (yJ (f:=gC) (fun _=>by rfl))|exact c_ (f:=gC) (fun _=>by rfl)|exact zbc (AV.int .i64) (by(try dsimp only);((try dsimp only);first|rfl|(rw[aE aa aa];done)|omega|(rw[aE aa aa];omega)))|(simp[AV.l1,AV.la,AV.l0];done)));done)|fail):P:=h
theorem zF {P:Prop}(h:P:=by first|(((repeat' first|exact True.intro|apply And.intro|rfl|exact zbc (fun v=>an.arr 1 [[v]]) (dX aB aB tu aB)|exact e_ aB (gM (f:=cx) (fun _=>by rfl) aB ag)|exact eg (f:=cx) (fun _=>by rfl)|exact c_ (f:=cx) (fun _=>by rfl)|(refine cw ?_ ?_ ?_<;>(try dsimp only)<;>omega)|exact zbc (AV.int .i64) cV));done)|fail):P:=h
theorem dc {P:Prop}(h:P:=by first|((simp only[zbd,zbk,zbp] at *;omega);done)|fail):P:=h
theorem vw {P:Prop}(h:P:=by first|(((repeat' first|exact xj hj hg0 (wW hg0)|(refine BV hj ?_ ?_;(first|rfl|(fail)))|(refine BW ?_ ?_;(first|rfl|(fail)))));done)|fail):P:=h
theorem lP {P:Prop}(h:P:=by first|(((repeat' (first|exact jJ|(refine jI (x:=?_) ?_ ?_ ?_ ?_ ?_ ?_;rotate_left;exact rfl;exact rfl;exact rfl;(first|exact mu|(refine mr ?_ ?_<;>first|rfl|omega)|exact True.intro|rfl);(first|exact jR|(refine lI ?_ ?_<;>first|rfl|omega)|rfl)))));done)|fail):P:=h
theorem ij {P:Prop}(h:P:=by first|((first|exact sC rfl tB|exact C8 ag aa hnq|exact sG eE hq|exact C7 ag aa aa);done)|fail):P:=h
theorem iM {P:Prop}(h:P:=by first|(((repeat' first|exact True.intro|apply And.intro|rfl|exact dX aB aB ag aB|(refine cw ?_ ?_ ?_<;>(try dsimp only)<;>omega)|(simp[AV.l1,AV.la,AV.l0];done)));done)|fail):P:=h
theorem vx {P:Prop}(h:P:=by first|(((conv=>whnf);(repeat' first|exact True.intro|apply And.intro|rfl|exact jG we|exact gE xm|exact jG aB|exact gE aB|exact jG yw|exact gE yz|exact wc|exact mb|exact zbc (fun v=>an.arr 2 [[i64 k,v]]) (dX aB aB ag aB)|exact dX aB aB ag aB|exact e_ aB (gM (f:=Ins.cells) (fun _=>by rfl) aB ag)|exact eg (f:=Ins.cells) (fun _=>by rfl)|exact c_ (f:=Ins.cells) (fun _=>by rfl)|(simp[AV.l1,AV.la,AV.l0];done)|(refine cw ?_ ?_ ?_<;>(try dsimp only)<;>omega)|exact zbc (AV.int .i64) cV));done)|fail):P:=h
theorem ab {P:Prop}(h:P:=by first|((decide);done)|fail):P:=h
theorem zG {P:Prop}(h:P:=by first|(((repeat' first|exact True.intro|apply And.intro|rfl|exact jG (FY hmkl)|exact jG we|exact gE xm|exact jG aB|exact gE aB|exact jG yw|exact gE yz|exact wc|exact mb|exact zbc (fun v=>an.arr 2 [[i64 k,v]]) (dX aB aB ag aB)|exact dX aB aB ag aB|exact e_ aB (gM (f:=Ins.cells) (fun _=>by rfl) aB ag)|exact eg (f:=Ins.cells) (fun _=>by rfl)|exact c_ (f:=Ins.cells) (fun _=>by rfl)|(refine cw ?_ ?_ ?_<;>(try dsimp only)<;>omega)|exact zbc (AV.int .i64) cV));done)|fail):P:=h
theorem jn {P:Prop}(h:P:=by first|((simp only[zbd,zbk,zbp];(try simp only[zbA,zcc] at hl);omega);done)|fail):P:=h
theorem cV {P:Prop}(h:P:=by first|(((try dsimp only);omega);done)|fail):P:=h
theorem bH {P:Prop}(h:P:=by first|(((dsimp only);omega);done)|fail):P:=h
theorem aG {P:Prop}(h:P:=by first|((kernel_rfl);done)|fail):P:=h
theorem gH {P:Prop}(h:P:=by first|((simp only[zbd,zbk,zbp] at ha ⊢;omega);done)|fail):P:=h
theorem vy {P:Prop}(h:P:=by first|((first|exact ke aa |>.trans (jy (by rw[hs.len];omega))|exact kL aa rfl ((ke aa).trans (jy (by rw[hs.len];omega)))|exact kL aa rfl (kL aa rfl ((ke aa).trans (jy (by rw[hs.len];omega))))|exact kL aa rfl (kL aa rfl (kL aa rfl ((ke aa).trans (jy (by rw[hs.len];omega))))));done)|fail):P:=h
theorem zH {P:Prop}(h:P:=by first|(((conv=>whnf);(repeat' first|exact True.intro|apply And.intro|rfl|exact gE aB|exact mb|exact dX aB aB ag aB|exact e_ aB (gM (f:=ic) (fun _=>by rfl) aB ag)|exact eg (f:=ic) (fun _=>by rfl)|exact c_ (f:=ic) (fun _=>by rfl)|(simp[AV.l1,AV.la,AV.l0];done)|(refine cw ?_ ?_ ?_<;>(try dsimp only)<;>omega)|exact zbc (AV.int .i64) cV));done)|fail):P:=h
theorem lQ {P:Prop}(h:P:=by first|((have:=i_len;simp only[zbd,zba,zbp] at this ⊢;omega);done)|fail):P:=h
theorem ik {P:Prop}(h:P:=by first|((have:=hat2 _ (za9 (by omega:j.1<(aY g k).length));omega);done)|fail):P:=h
theorem ag {P:Prop}(h:P:=by first|((simp);done)|fail):P:=h
theorem th {P:Prop}(h:P:=by first|((first|exact eV (l:=bq (bT q tl) c.b.l[n].ins.l y) (n:=(y:Int)) aa|exact eV (l:=tl) (f:=ic) (by have:=hpat aa;omega)|exact sC ag tB|exact sG eE hq);done)|fail):P:=h
theorem Eu {P:Prop}(h:P:=by first|(((repeat' first|exact True.intro|apply And.intro|rfl|exact jG we|exact gE xm|exact jG aB|exact gE aB|exact jG yw|exact gE yz|exact wc|exact mb|exact zbc (fun v=>an.arr 2 [[i64 k,v]]) (dX aB aB ag aB)|exact dX aB aB ag aB|exact e_ aB (gM (f:=Ins.cells) (fun _=>by rfl) aB ag)|exact eg (f:=Ins.cells) (fun _=>by rfl)|exact c_ (f:=Ins.cells) (fun _=>by rfl)|(refine cw ?_ ?_ ?_<;>(try dsimp only)<;>omega)|exact zbc (AV.int .i64) cV));done)|fail):P:=h
theorem NN {P:Prop}(h:P:=by first|(((conv=>whnf);(repeat' first|exact True.intro|apply And.intro|rfl|exact dX aB aB ag aB|exact e_ aB (gM (f:=cx) (fun _=>by rfl) aB ag)|exact eg (f:=cx) (fun _=>by rfl)|exact c_ (f:=cx) (fun _=>by rfl)|(simp[AV.l1,AV.la,AV.l0];done)|(refine cw ?_ ?_ ?_<;>(try dsimp only)<;>omega)|exact zbc (AV.int .i64) cV));done)|fail):P:=h
theorem zI {P:Prop}(h:P:=by first|(((repeat' first|exact True.intro|apply And.intro|rfl|exact qz (s:=2) rfl|exact qz (s:=2) (by rw[<-JM hnl hnq (by rw[C3 hins])];congr 1;simp)|exact yh (s:=2)|exact eg (sz:=1) (f:=ic) (fun _=>by rfl)|exact c_ (sz:=1) (f:=ic) (fun _=>by rfl)|(refine cw ?_ ?_ ?_<;>(try dsimp only)<;>omega)|exact zbc (AV.int .i64) cV));done)|fail):P:=h
theorem gX {P:Prop}(h:P:=by first|((simp only[zbd,zba,zbp];omega);done)|fail):P:=h
theorem bD {P:Prop}(h:P:=by first|((assumption);done)|fail):P:=h
theorem zJ {P:Prop}(h:P:=by first|(((repeat' (first|exact jJ|(refine jI (x:=?_) ?_ ?_ ?_ ?_ ?_ ?_;rotate_left;exact rfl;exact rfl;exact rfl;(first|exact mu|(refine mr ?_ ?_<;>first|rfl|omega)|(refine qq ?_;exact(WV hj).symm)|rfl);(first|exact jR|(refine lI ?_ ?_<;>first|rfl|omega)|rfl)))));done)|fail):P:=h
theorem o8 {P:Prop}(h:P:=by first|(((repeat' first|exact True.intro|apply And.intro|rfl|(refine cw ?_ ?_ ?_<;>(try dsimp only)<;>omega)|exact zbc (AV.int .i64) cV));done)|fail):P:=h
theorem zK {P:Prop}(h:P:=by first|(((repeat' first|exact True.intro|apply And.intro|rfl|exact qz (s:=2) rfl|exact yh (s:=2)|exact eg (sz:=1) (f:=ic) (fun _=>by rfl)|exact c_ (sz:=1) (f:=ic) (fun _=>by rfl)|(refine cw ?_ ?_ ?_<;>(try dsimp only)<;>omega)|exact zbc (AV.int .i64) cV));done)|fail):P:=h
theorem Ew {P:Prop}(h:P:=by first|(((repeat' first|exact True.intro|apply And.intro|rfl|exact zbc (fun x=>an.arr 8 [[_,_,_,_,_,_,_,x]]) (dX aB aB ag aB)|exact dX aB aB ag aB|exact e_ aB (gM (f:=fun a:Int=>[i64 a]) (fun _=>by rfl) aB ag)|exact c_ (f:=fun a:Int=>[i64 a]) (fun _=>by rfl)|(refine cw ?_ ?_ ?_<;>(try dsimp only)<;>omega)|(simp[AV.l1,AV.la,AV.l0];done)));done)|fail):P:=h
theorem Ex {P:Prop}(h:P:=by first|(((repeat' first|exact True.intro|apply And.intro|rfl|exact zbc (fun x=>an.arr 1 [[x]]) (dX aB aB ag aB)|exact dX aB aB ag aB|exact e_ aB (gM (f:=fun a:Int=>[i64 a]) (fun _=>by rfl) aB ag)|exact c_ (f:=fun a:Int=>[i64 a]) (fun _=>by rfl)|(refine cw ?_ ?_ ?_<;>(try dsimp only)<;>omega)|(simp[AV.l1,AV.la,AV.l0];done)));done)|fail):P:=h
theorem Ey {P:Prop}(h:P:=by first|(((repeat' (first|exact jJ|(refine jI (x:=?_) ?_ ?_ ?_ ?_ ?_ ?_;rotate_left;exact rfl;exact rfl;exact rfl;(first|exact mu|(refine mr ?_ ?_<;>first|rfl|omega)|(refine qq ?_;exact(Ju).trans (Wp hlt aa).symm)|rfl);(first|exact jR|(refine lI ?_ ?_<;>first|rfl|omega)|rfl)))));done)|fail):P:=h
theorem aB {P:Prop}(h:P:=by first|((rfl);done)|fail):P:=h
theorem Ez {P:Prop}(h:P:=by first|(((repeat' (first|exact jJ|(refine jI (x:=?_) ?_ ?_ ?_ ?_ ?_ ?_;rotate_left;exact rfl;exact rfl;exact rfl;(first|exact mu|(refine mr ?_ ?_<;>first|rfl|omega)|(refine qq ?_;exact(Xw hi).symm)|rfl);(first|exact jR|(refine lI ?_ ?_<;>first|rfl|omega)|rfl)))));done)|fail):P:=h
theorem eY {P:Prop}(h:P:=by first|((dsimp only;omega);done)|fail):P:=h
theorem bj {P:Prop}(h:P:=by first|((grind);done)|fail):P:=h
theorem im {P:Prop}(h:P:=by first|(((intro j o hj hg0;(exact vw)));done)|fail):P:=h
theorem zL {P:Prop}(h:P:=by first|((show(y::(acc++[4,4])).length=s.length;simp only[zbd,zbk,zbp];(try simp only[zbA,zcc] at hl);omega);done)|fail):P:=h
theorem kW {P:Prop}(h:P:=by first|(((first|rfl|((try simp only[rz]);omega)));done)|fail):P:=h
theorem zaZ {P:Prop}(h:P:=by first|((have:=z_len;simp only[zbd,zba,zbp] at this ⊢;omega);done)|fail):P:=h
theorem NO {P:Prop}(h:P:=by first|(((repeat' first|exact True.intro|apply And.intro|rfl|exact zbc (AV.int .i64) (zbc (fun k:Nat=>(k:Int)) (zba _))|(refine cw ?_ ?_ ?_<;>(try dsimp only)<;>omega)|exact zbc (AV.int .i64) cV));done)|fail):P:=h
theorem tj {P:Prop}(h:P:=by first|((simp only[zbd,zbk,zbp] at zhl ⊢;omega);done)|fail):P:=h
theorem EB {P:Prop}(h:P:=by first|((((conv=>whnf);(repeat' first|exact True.intro|apply And.intro|rfl|exact zbc (AV.int .i64) (by((try dsimp only);first|rfl|(rw[aE aa aa];done)|omega|(rw[aE aa aa];omega))));done));done)|fail):P:=h
theorem eE {P:Prop}(h:P:=by first|((simp;omega);done)|fail):P:=h
theorem tr {P:Prop}(h:P:=by first|((have:=Gl (f.cA.take i);simp only[zbA] at this;omega);done)|fail):P:=h
theorem jC {P:Prop}(h:P:=by first|(((conv=>whnf);(exact EC));done)|fail):P:=h
theorem qW {P:Prop}(h:P:=by first|((simp only[zbd,zba] at *;omega);done)|fail):P:=h
theorem mD {P:Prop}(h:P:=by first|((simp only[zba];omega);done)|fail):P:=h
theorem tt {P:Prop}(h:P:=by first|((first|exact⟨by omega,by omega⟩|(show n+1≤_;omega));done)|fail):P:=h
theorem o9 {P:Prop}(h:P:=by first|(((first|omega|(have hpa:=hpat aa;omega)));done)|fail):P:=h
theorem tu {P:Prop}(h:P:=by first|((first|(simp;done)|(simp;omega));done)|fail):P:=h
theorem zM {P:Prop}(h:P:=by first|((simp only[zbd];first|omega|(simp only[zbA,zcc] at hl;omega));done)|fail):P:=h
theorem kX {P:Prop}(h:P:=by first|(((conv=>whnf);(exact Ev));done)|fail):P:=h
theorem tz {P:Prop}(h:P:=by first|(((try simp only[zbd,zbp]);omega);done)|fail):P:=h
theorem fk {P:Prop}(h:P:=by first|(((exact zE));done)|fail):P:=h
theorem zN {P:Prop}(h:P:=by first|((have:=hat2 _ (za9 (by omega:j.1<(aY g k).length));rw[hs.len];omega);done)|fail):P:=h
theorem zO {P:Prop}(h:P:=by first|(((first|rfl|((try simp only[rz]);(first|omega|(have hpa:=hpat aa;omega)))));done)|fail):P:=h
theorem jo {P:Prop}(h:P:=by first|((rw[hyl];exact h);done)|fail):P:=h
theorem mE {P:Prop}(h:P:=by first|((have:=hlenall n aa;omega);done)|fail):P:=h
theorem zP {P:Prop}(h:P:=by first|((rw[Vd hl2 hkx];first|rfl|(simp_all;done)|(simp_all[dz];done));done)|fail):P:=h
theorem NP {P:Prop}(h:P:=by first|(((dsimp only);rw[qS aa,<-hm];rfl);done)|fail):P:=h
theorem mF {P:Prop}(h:P:=by first|((have:=hLr2 j aa;omega);done)|fail):P:=h
theorem zQ {P:Prop}(h:P:=by first|(((first|omega|(simp only[zbA,zcc];omega)));done)|fail):P:=h
theorem zR {P:Prop}(h:P:=by first|((show(y::acc).length=s.length;simp only[zbd];omega);done)|fail):P:=h
theorem tA {P:Prop}(h:P:=by first|(((try simp only[zbd]);omega);done)|fail):P:=h
theorem vz {P:Prop}(h:P:=by first|(((intro j o hj hg0;rw[hy2] at hg0;(exact vw)));done)|fail):P:=h
theorem ED {P:Prop}(h:P:=by first|((rw[SX aa (by intro hh;first|exact absurd hh.1 bD|exact absurd hh.2 bD),<-hz]);done)|fail):P:=h
theorem vA {P:Prop}(h:P:=by first|(((try simp only[zba] at *)<;>omega);done)|fail):P:=h
theorem tB {P:Prop}(h:P:=by first|((simp only[Ya,Yb];omega);done)|fail):P:=h
theorem o_ {P:Prop}(h:P:=by first|(((conv=>whnf);(exact EA));done)|fail):P:=h
theorem iq {P:Prop}(h:P:=by first|((simp[cu]);done)|fail):P:=h
theorem zS {P:Prop}(h:P:=by first|((rw[hwl bD];have:=hp bD;simp only[qM];omega);done)|fail):P:=h
end Go.Ago
section
namespace Go.Ago
open List Nat
inductive AV where
 | any
 | bool (b:Bool)
 | int (k:IntKind) (n:Int)
 | str (l:List UInt8)
 | dI
 | ptr (k i off:Nat)
 | bm (cs:List AV)
 | ai
 | cW
 | ay (k i len sz:Nat)
 | ak (sz:Nat) (es:List (List AV))
 | fS
 | fZ (k:Nat)
 | cX (k:Nat)
 | cK (es:List (Int×AV))
 | fn (f:Fn) (first cap:List AV)
 | cY
 | cG (t:TypeId) (v:AV)
 | eI
 | agg (cs:List AV)
 | ao (vs:List AV)
 deriving Inhabited
def AV.one:AV->Bool
 | .any | .agg _ | .ao _=>false
 | _=>true
def AV.cells:AV->List AV
 | .agg a=>a
 | v=>[v]
inductive Tr (α:Type) where
 | nil
 | node (l:Tr α) (x:Option α) (r:Tr α)
 | put (k:Nat) (v:Option α) (t:Tr α)
 | fx (A N:Nat) (g:Nat->Option α) (t:Tr α)
 deriving Inhabited
namespace Tr
variable {α:Type}
def get:Tr α->Nat->Option α
 | .nil,_=>none
 | .node l x r,n=>bif n == 0 then x else bif n % 2 == 1 then l.get (n / 2) else r.get (n / 2 - 1)
 | .put k v t,n=>bif beq n k then v else t.get n
 | .fx A N g t,n=>bif ble A n && blt n (A+N) then g (n - A) else t.get n
def ins:Nat->Nat->Option α->Tr α->Tr α
 | 0,_,_,t=>t
 | d+1,n,y,.nil=>bif n == 0 then .node .nil y .nil else bif n % 2 == 1 then .node (ins d (n / 2) y .nil) none .nil else .node .nil none (ins d (n / 2 - 1) y .nil)
 | _+1,n,y,.put k v t => .put n y (.put k v t)
 | _+1,n,y,.fx A N g t => .put n y (.fx A N g t)
 | d+1,n,y,.node l x r=>bif n == 0 then .node l y r else bif n % 2 == 1 then .node (ins d (n / 2) y l) x r else .node l x (ins d (n / 2 - 1) y r)
theorem SO (d:Nat):∀(n:Nat) (y:Option α) (t:Tr α) (m:Nat),n+1<2 ^ d->(t.ins d n y).get m=if m=n then y else t.get m:=by
 induction d with
 | zero=>simp
 | succ d C =>
   intro n y t m h;have G:n+1<2 * 2 ^ d:=by rw[Nat.pow_succ] at h;omega
   have z:∀(l r:Tr α) (x:Option α),(Tr.ins (d+1) n y (.node l x r)).get m=if m=n then y else (Tr.node l x r).get m:=by
    intro l r x
    by_cases u:n=0
    . subst u
      by_cases f:m=0
      . subst f;rfl
      . have : (m == 0) = false := by simpa using f
        simp[ins,get,f,this]
    . have p : (n == 0) = false := by simpa using u
      by_cases s:n % 2=1
      . have i : (n % 2 == 1) = true := by simpa using s
        by_cases f:m=0
        . subst f
          have:¬0=n:=fun e=>u e.symm
          simp[ins,get,p,i,this]
        . have q : (m == 0) = false := by simpa using f
          by_cases b:m % 2=1
          . have a : (m % 2 == 1) = true := by simpa using b
            have w:=C (n / 2) y l (m / 2) aa;have c:(m / 2=n / 2)↔m=n:=by constructor<;>intro E<;>omega
            simp only[ins,get,p,i,q,a,zbN,zb0,w,c]
          . have a : (m % 2 == 1) = false := by simpa using b
            have o:¬m=n:=by intro e;subst e;exact b s
            simp[ins,get,p,i,q,a,o]
      . have i : (n % 2 == 1) = false := by simpa using s
        by_cases f:m=0
        . subst f
          have:¬0=n:=fun e=>u e.symm
          simp[ins,get,p,i,this]
        . have q : (m == 0) = false := by simpa using f
          by_cases b:m % 2=1
          . have a : (m % 2 == 1) = true := by simpa using b
            have o:¬m=n:=by intro e;subst e;exact s b
            simp[ins,get,p,i,q,a,o]
          . have a : (m % 2 == 1) = false := by simpa using b
            have w:=C (n / 2 - 1) y r (m / 2 - 1) aa;have c:(m / 2 - 1=n / 2 - 1)↔m=n:=by constructor<;>intro E<;>omega
            simp only[ins,get,p,i,q,a,zb0,w,c]
   cases t with
   | node l x r=>grind
   | put k v t =>
     simp only[ins];rw[get];simp
   | fx A N g t =>
     simp only[ins];rw[get];simp
   | nil =>
     have:=z .nil .nil none;have i:Tr.ins (d+1) n y (.node .nil none .nil)=Tr.ins (d+1) n y .nil:=by
      simp only[ins]
     have F:(Tr.node .nil none .nil:Tr α).get m=(Tr.nil:Tr α).get m:=by
      simp only[get];cases (m == 0)<;>cases (m % 2 == 1)<;>rfl
     grind
def set (_:Nat)(n:Nat)(y:Option α)(t:Tr α):Tr α := .put n y t
theorem eQ (d:Nat)(n:Nat)(y:Option α)(t:Tr α)(m:Nat)(_:n+1<2 ^ d):(t.set d n y).get m=if m=n then y else t.get m:=by
 show(Tr.put n y t).get m=_;rw[get];simp
end Tr
inductive an where
 | arr (sz:Nat) (es:List (List AV))
 | dJ (s:List UInt8) (pos:Nat)
 | lp (st:LoopState) (pend:Option Code) (sl:List (Nat×AV)) (bL:Nat) (code:Code)
 | mp (es:List (Int×AV))
 | cm (cur:Option (Int×AV)) (es:List (Int×AV))
 deriving Inhabited
abbrev aj:=Tr an
structure fo where
 b:Nat
 s:Nat
 n:Nat
 sz:Nat
structure Ctx where
 f:Nat->Option fo
 aq:Nat->Prop
structure Ctx.le (c c':Ctx):Prop where
 f:∀k p,c.f k=some p->c'.f k=some p
 aq:∀b,c.aq b->c'.aq b
def Ctx.bare (c:Ctx):Ctx:=⟨fun _=>none,c.aq⟩
theorem Ctx.E4 (c:Ctx):c.bare.le c:=⟨fun _ _ h=>(by cases h),fun _ h=>h⟩
theorem Ctx.le.bare {c c':Ctx}(h:c.le c'):c.bare.le c'.bare:=⟨fun _ _ h=>(by cases h),h.aq⟩
theorem Ctx.le.refl (c:Ctx):c.le c:=⟨fun _ _ h=>h,fun _ h=>h⟩
theorem Ctx.le.trans {a b c:Ctx}(h:a.le b)(d:b.le c):a.le c:=⟨fun k p e=>d.f k p (h.f k p e),fun k e=>d.aq k (h.aq k e)⟩
structure py (mes:Array MapEntry)(clock:Nat):Prop where
 lt:∀e∈mes.toList,e.born<clock
 nd:(mes.toList.map (·.born)).Nodup
def cu (es:List (Int×AV)):Prop:=(es.map (·.1)).Pairwise (·<·)
inductive Rel:Ctx->World->AV->Value->Prop where
 | any {c:Ctx} {w:World} (v:Value):Rel c w .any v
 | bool {c:Ctx} {w:World} (b:Bool):Rel c w (.bool b) (.bool b)
 | int {c:Ctx} {w:World} (k:IntKind) (n:Int):Rel c w (.int k n) (.int k n)
 | str {c:Ctx} {w:World} (l:List UInt8):Rel c w (.str l) (.string ⟨l.toArray⟩)
 | dI {c:Ctx} {w:World}:Rel c w .dI (.pointer none)
 | ptr {c:Ctx} {w:World} {k i off:Nat} {B:fo} (h:c.f k=some B):Rel c w (.ptr k i off) (.pointer (some ⟨B.b,B.s+(i * B.sz+off),none⟩))
 | bm {c:Ctx} {w:World} {cs:List AV} {a:Addr} {vs:List Value} (hi:c.aq a.block) (hl:cs.length=vs.length) (hc:∀(i:Nat) v,vs[i]? = some v->w.cell? (a.add i)=some v)
  (hr:∀(i:Nat) x v,cs[i]? = some x->vs[i]? = some v->Rel c.bare w x v):Rel c w (.bm cs) (.pointer (some a))
 | ai {c:Ctx} {w:World}:Rel c w .ai (.slice none 0 0)
 | cW {c:Ctx} {w:World} (a:Addr):Rel c w .cW (.slice (some a) 0 0)
 | ay {c:Ctx} {w:World} {k i len sz cap:Nat} {B:fo} {a:Addr} (h:c.f k=some B) (hsz:B.sz=sz) (hlen:len≤cap) (hcap:0<cap->a=⟨B.b,B.s+i * sz,none⟩∧(i+cap) * sz≤B.n) (hmax:cap≤9223372036854775807) :
  Rel c w (.ay k i len sz) (.slice (some a) len cap)
 | ak {c:Ctx} {w:World} {sz:Nat} {es:List (List AV)} {cap:Nat} {a:Addr} (vs:Nat->Nat->Value) (hlen:es.length≤cap) (hi:0<es.length->c.aq a.block) (hl:∀(i:Nat) e,es[i]? = some e->e.length=sz)
  (hc:∀(i j:Nat),i<es.length->j<sz->w.cell? (a.add (i * sz+j))=some (vs i j)) (hr:∀(i j:Nat) e x,es[i]? = some e->e[j]? = some x->Rel c.bare w x (vs i j)) :
  Rel c w (.ak sz es) (.slice (some a) es.length cap)
 | fh {c:Ctx} {w:World} (sz:Nat):Rel c w (.ak sz []) (.slice none 0 0)
 | iA {c:Ctx} {w:World}:Rel c w .cW (.slice none 0 0)
 | fS {c:Ctx} {w:World}:Rel c w .fS (.map none)
 | fZ {c:Ctx} {w:World} {k:Nat} {B:fo} (h:c.f k=some B):Rel c w (.fZ k) (.func (.yield B.b) #[] #[])
 | cX {c:Ctx} {w:World} {k:Nat} {B:fo} (h:c.f k=some B):Rel c w (.cX k) (.map (some B.b))
 | cK {c:Ctx} {w:World} {es:List (Int×AV)} {r clock:Nat} {mes:Array MapEntry} (f:Int->MapEntry) (hi:c.aq r) (hm:w.heap[r]? = some (.map mes clock)) (hb:py mes clock) (hs:cu es)
  (hf:∀k x,(k,x)∈es->f k∈mes.toList∧(f k).key = .int .i64 k) (he:∀e∈mes.toList,∃k x,(k,x)∈es∧e=f k) (hr:∀k x,(k,x)∈es->Rel c.bare w x (f k).val):Rel c w (.cK es) (.map (some r))
 | fn {c:Ctx} {w:World} (f:Fn) {xs ys:List AV} {vs us:List Value} (h1:xs.length=vs.length) (h2:ys.length=us.length)
  (hr1:∀(i:Nat) x v,xs[i]? = some x->vs[i]? = some v->Rel c w x v) (hr2:∀(i:Nat) x v,ys[i]? = some x->us[i]? = some v->Rel c w x v):Rel c w (.fn f xs ys) (.func f vs.toArray us.toArray)
 | cY {c:Ctx} {w:World}:Rel c w .cY .nilFunc
 | cG {c:Ctx} {w:World} (t:TypeId) {x:AV} {v:Value} (h:Rel c w x v):Rel c w (.cG t x) (.iface t v)
 | eI {c:Ctx} {w:World}:Rel c w .eI .nilIface
 | agg {c:Ctx} {w:World} {cs:List AV} {vs:List Value} (hl:cs.length=vs.length) (hr:∀(i:Nat) x v,cs[i]? = some x->vs[i]? = some v->Rel c w x v):Rel c w (.agg cs) (.agg vs.toArray)
 | ao {c:Ctx} {w:World} {cs:List AV} {vs:List Value} (hl:cs.length=vs.length) (hr:∀(i:Nat) x v,cs[i]? = some x->vs[i]? = some v->Rel c w x v):Rel c w (.ao cs) (.tuple vs.toArray)
def aP (c:Ctx)(w:World)(xs:List AV)(vs:List Value):Prop:=xs.length=vs.length∧∀(i:Nat) x v,xs[i]? = some x->vs[i]? = some v->Rel c w x v
section
variable {c c':Ctx} {w w':World}
theorem wz {w w':World}{a:Addr}(h:w'.heap[a.block]? = w.heap[a.block]?):w'.cell? a=w.cell? a:=by
 unfold World.cell?;rw[h]
theorem block_add (a:Addr)(n:Nat):(a.add n).block=a.block:=by unfold Addr.add;grind
theorem Rel.mono {x:AV}{v:Value}(h:Rel c w x v)(d:c.le c')(o:∀b,c.aq b->w'.heap[b]? = w.heap[b]?):Rel c' w' x v:=by
 induction h generalizing c' with
 | any v=>exact .any v
 | bool b=>exact .bool b
 | int k n=>exact .int k n
 | str l=>exact .str l
 | dI=>exact .dI
 | ptr h=>exact .ptr (d.f _ _ h)
 | bm r q D A g=>exact .bm (d.aq _ r) q (fun i v e=>(wz (by rw[block_add];grind)).trans (D i v e)) (fun i x v e p=>g i x v e p d.bare o)
 | ai=>exact .ai
 | cW a=>exact .cW a
 | ay h E m z u=>exact .ay (d.f _ _ h) E m z u
 | ak T m r q D A g=>exact .ak T m (fun h=>d.aq _ (r h)) q (fun i j s y=>(wz (by rw[block_add];grind)).trans (D i j s y)) (fun i j e x s y=>g i j e x s y d.bare o)
 | fh Q=>exact .fh Q
 | iA=>exact .iA
 | fS=>exact .fS
 | fZ h=>exact .fZ (d.f _ _ h)
 | cX h=>exact .cX (d.f _ _ h)
 | cK f r W X Y Z he A g=>exact .cK f (d.aq _ r) ((o _ r).trans W) X Y Z he (fun k x e=>g k x e d.bare o)
 | fn f s y hr1 hr2 C F=>exact .fn f s y (fun i x v e p=>C i x v e p d o) (fun i x v e p=>F i x v e p d o)
 | cY=>exact .cY
 | cG t h g=>exact .cG t (g d o)
 | eI=>exact .eI
 | agg q A g=>exact .agg q (fun i x v e p=>g i x v e p d o)
 | ao q A g=>exact .ao q (fun i x v e p=>g i x v e p d o)
theorem aP.mono {xs:List AV}{vs:List Value}(h:aP c w xs vs)(a:c.le c')(f:∀b,c.aq b->w'.heap[b]? = w.heap[b]?):aP c' w' xs vs:=
 ⟨h.1,fun i x v e d=>(h.2 i x v e d).mono a f⟩
theorem Rel.oJ {x:AV}{v:Value}(h:Rel c.bare w x v):Rel c w x v:=h.mono c.E4 (ag)
theorem aP.oJ {x:List AV}{v:List Value}(h:aP c.bare w x v):aP c w x v:=h.mono c.E4 (ag)
theorem aP.nil:aP c w [] []:=⟨rfl,fun i x v e=>ag⟩
theorem aP.cons {x:AV}{v:Value}{xs:List AV}{vs:List Value}(h:Rel c w x v)(b:aP c w xs vs):aP c w (x::xs) (v::vs):=
 ⟨by simp[b.1],fun i y u e f=>by
  cases i with
  | zero=>grind
  | succ i=>exact b.2 i y u bj bj⟩
theorem aP.dP {x:AV}{xs:List AV}{vs:List Value}(h:aP c w (x::xs) vs):∃v us,vs=v::us∧Rel c w x v∧aP c w xs us:=by
 cases vs with
 | nil=>have:=h.1;grind
 | cons v us=>exact⟨v,us,rfl,h.2 0 x v rfl rfl,by have:=h.1;grind,fun i y u e d=>h.2 (i+1) y u bj bj⟩
theorem aP.fX {vs:List Value}(h:aP c w [] vs):vs=[]:=by
 have:=h.1
 grind
theorem aP.append {xs ys:List AV}{vs us:List Value}(h:aP c w xs vs)(d:aP c w ys us):aP c w (xs++ys) (vs++us):=
 ⟨by simp[h.1,d.1],fun i x v e a=>by
  by_cases b:i<xs.length
  . rw [zbM b] at e
    rw[zbM (by rw[<-h.1];exact b)] at *
    exact h.2 i x v e a
  rw[zbv aa] at e;rw[zbv (by rw[<-h.1];omega),<-h.1] at a
  exact d.2 _ x v e a⟩
theorem aP.drop {xs:List AV}{vs:List Value}(h:aP c w xs vs)(n:Nat):aP c w (xs.drop n) (vs.drop n):=
 ⟨by simp[h.1],fun i x v e a=>h.2 (n+i) x v bj bj⟩
theorem aP.take {xs:List AV}{vs:List Value}(h:aP c w xs vs)(n:Nat):aP c w (xs.take n) (vs.take n):=
 ⟨by simp[h.1],fun i x v e a=>by
  by_cases b:i<n
  . simp_all;exact h.2 i x v e a
  grind⟩
theorem aP.get {xs:List AV}{vs:List Value}(h:aP c w xs vs){i:Nat}{x:AV}(e:xs[i]? = some x):∃v,vs[i]? = some v∧Rel c w x v:=by
 have b:=(zbn.1 e).1;have a:i<vs.length:=by rw[<-h.1];exact b
 exact⟨vs[i],zbf _,h.2 i x _ e (ag)⟩
theorem aP.set {xs:List AV}{vs:List Value}(h:aP c w xs vs){x:AV}{v:Value}(d:Rel c w x v)(i:Nat):aP c w (xs.set i x) (vs.set i v):=
 ⟨by simp[h.1],fun j y u e a=>by
  by_cases b:i=j
  . grind
  . simp_all;exact h.2 j y u e a⟩
theorem Rel.cells {x:AV}{v:Value}(h:Rel c w x v)(a:x.one=true∨∃cs,x = .agg cs):aP c w x.cells v.cells.toList:=by
 rcases a with a|⟨cs,rfl⟩
 . have d : x.cells = [x] := by cases x <;> simp_all [AV.one, AV.cells]
   have g:v.cells=#[v]:=by cases h<;>simp_all[AV.one,Value.cells]
   rw[d,g];exact .cons h .nil
 . cases h with
   | agg k f=>exact⟨by assumption,fun i x v e j=>f i x v bD bD⟩
theorem Rel.WN {x:AV}{v:Value}(h:Rel c w x v)(a:x.one=true):(∀cs,v≠.agg cs)∧(∀cs,v≠.tuple cs):=by
 cases h<;>simp_all[AV.one]
end
end Go.Ago
end
namespace Go.Ago
open List Nat
def bk (l:List Int):Prop:=l.Pairwise (·<·)
theorem bk.cons {x:Int}{l:List Int}:bk (x::l)↔(∀y∈l,x<y)∧bk l:=pairwise_cons
theorem bk.nil:bk []:=Pairwise.nil
theorem bk.sub:∀{a b:List Int},bk a->bk b->(∀x∈a,x∈b)->a.Sublist b
 | [],b,_,_,_=>nil_sublist b
 | x::a,[],_,_,h=>absurd (h x zck) ag
 | x :: a, y :: b, f, g, h => by
   have d:=bk.cons.1 f;have c:=bk.cons.1 g;rcases zbB.1 (h x zck) with e|j
   . subst e
     refine Sublist.cons_cons _ (bk.sub d.2 c.2 fun z k=>?_)
     grind
   . have i := c.1 x j
     refine Sublist.cons _ (bk.sub f c.2 fun z k=>?_)
     grind
theorem bk.ext {a b:List Int}(f:bk a)(e:bk b)(h:∀x,x∈a↔x∈b):a=b:=by
 have d:=bk.sub f e fun x c=>(h x).1 c
 have g:=bk.sub e f fun x c=>(h x).2 c
 exact d.eq_of_length (Nat.le_antisymm d.length_le g.length_le)
theorem bk.filter {l:List Int}(h:bk l)(p:Int->Bool):bk (l.filter p):=zcO (ag) h
theorem bk.len:∀{l:List Int} {a N:Int},bk l->(∀x∈l,a≤x∧x<N)->l.length≤(N - a).toNat
 | [],_,_,_,_=>zbq _
 | x :: l, a, N, h, b => by
   have d:=bk.cons.1 h;have e:=b x (ag);have:=bk.len (a:=x+1) d.2 fun y c=>⟨by grind,(b y (zbO _ c)).2⟩
   grind
def jN:List Int->Int->List Int
 | [],r=>[r]
 | x::l,r=>if r<x then r::x::l else if r=x then x::l else x::jN l r
theorem hZ:∀{l:List Int} {r x:Int},x∈jN l r↔x=r∨x∈l
 | [],r,x=>by simp[jN]
 | y :: l, r, x => by
   unfold jN;split
   . simp
   . split
     . grind
     . rw [zbB, hZ, zbB]
       grind
theorem oA:∀{l:List Int} {r:Int},bk l->bk (jN l r)
 | [],r,_=>by unfold jN;exact bk.cons.2 ⟨fun _ c=>(by cases c),bk.nil⟩
 | y :: l, r, h => by
   have f:=bk.cons.1 h;unfold jN;split
   . rename_i d
     refine bk.cons.2 ⟨fun z b=>?_,h⟩
     grind
   . split
     . exact h
     . refine bk.cons.2 ⟨fun z b => ?_, oA f.2⟩
       rcases hZ.1 b with e|b
       . omega
       grind
def jl (a b:List Int):List Int:=a.foldl jN b
theorem jz:∀{a b:List Int} {x:Int},x∈jl a b↔x∈a∨x∈b
 | [],b,x=>by simp[jl]
 | y :: a, b, x => by
   show x∈jl a _↔_;rw[jz,hZ]
   grind
theorem r_:∀{a b:List Int},bk b->bk (jl a b)
 | [],_,h=>h
 | _::a,_,h=>r_ (a:=a) (oA h)
structure aI where
 all:Bool
 l:List Int
def aI.has (s:aI)(r:Int):Bool:=decide (r∈s.l) != s.all
def aI.wo (s:aI)(r:Int):aI:=if s.has r=true then (if s.all=true then ⟨true,jN s.l r⟩ else ⟨false,s.l.filter fun x=>!decide (x=r)⟩) else s
def aI.mt (s o:aI):aI:=if s.all=true then (if o.all=true then ⟨true,jl s.l o.l⟩ else ⟨false,o.l.filter s.has⟩) else ⟨false,s.l.filter o.has⟩
structure aI.Ok (N:Int)(s:aI):Prop where
 inc:bk s.l
 bd:∀x∈s.l,0≤x∧x<N
theorem aI.uE {l:List Int}{r:Int}:(aI.mk true l).has r=true↔r∉l:=by simp[aI.has]
theorem aI.qc {l:List Int}{r:Int}:(aI.mk false l).has r=true↔r∈l:=by simp[aI.has]
theorem aI.Td {s:aI}{r x:Int}:(s.wo r).has x=true↔s.has x=true∧x≠r:=by
 obtain⟨a,l⟩:=s;unfold aI.wo;split
 . cases a
   . rw [if_neg ag]
     rw[aI.qc,aI.qc];simp
   rw[if_pos rfl,aI.uE,aI.uE,hZ]
   grind
 grind
theorem aI.Tc {s o:aI}{x:Int}:(s.mt o).has x=true↔s.has x=true∧o.has x=true:=by
 obtain⟨a,l⟩:=s;obtain⟨b,m⟩:=o;unfold aI.mt;cases a
 . rw[if_neg ag,aI.qc,aI.qc,zbY]
 rw[if_pos rfl];cases b
 . rw [if_neg ag, aI.qc, aI.qc]
   grind
 rw[if_pos rfl,aI.uE,aI.uE,aI.uE,jz];simp
theorem aI.Ok.wo {N:Int}{s:aI}(h:s.Ok N){r:Int}(b:0≤r∧r<N):(s.wo r).Ok N:=by
 unfold aI.wo;split
 . split
   . exact⟨oA h.inc,fun x a=>(hZ.1 a).elim (fun e=>aa) (h.bd x)⟩
   exact⟨h.inc.filter _,fun x a=>h.bd x (zbY.1 a).1⟩
 omega
theorem aI.Ok.mt {N:Int}{s o:aI}(h:s.Ok N)(b:o.Ok N):(s.mt o).Ok N:=by
 unfold aI.mt;split
 . split
   . exact⟨r_ b.inc,fun x a=>(jz.1 a).elim (h.bd x) (b.bd x)⟩
   exact⟨b.inc.filter _,fun x a=>b.bd x (zbY.1 a).1⟩
 exact⟨h.inc.filter _,fun x a=>h.bd x (zbY.1 a).1⟩
theorem aI.Ok.one {N r:Int}(c:0≤r∧r<N):(aI.mk false [r]).Ok N:=⟨bk.cons.2 ⟨fun _ a=>(by cases a),bk.nil⟩,fun x b=>by grind⟩
theorem aI.Ok.top {N:Int}:(aI.mk true []).Ok N:=⟨bk.nil,fun x a=>by cases a⟩
def aI.rk (N:Nat)(s:aI):Nat:=if s.all=true then 2 * N+1 - s.l.length else s.l.length
theorem aI.Ok.len {N:Nat}{s:aI}(h:s.Ok N):s.l.length≤N:=by
 have:=bk.len h.inc h.bd;omega
theorem aI.u7 {N:Nat}{s o:aI}(h:s.Ok N)(f:o.Ok N):(s.mt o).rk N≤s.rk N∧((s.mt o).rk N=s.rk N->s.mt o=s):=by
 have g:=h.len;have q:=f.len;have c:=(h.mt f).len;obtain⟨a,l⟩:=s;obtain⟨b,m⟩:=o;cases a
 . have e : (aI.mk false l).mt ⟨b, m⟩ = ⟨false, l.filter (aI.mk b m).has⟩ := by unfold aI.mt; rw [if_neg ag]
   rw[e];have d:(l.filter (aI.mk b m).has).Sublist l:=filter_sublist;refine⟨by show length _≤length _;grind,fun i=>?_⟩
   rw[d.eq_of_length i]
 . cases b
   . have e : (aI.mk true l).mt ⟨false, m⟩ = ⟨false, m.filter (aI.mk true l).has⟩ := by unfold aI.mt; rw [if_pos rfl, if_neg ag]
     rw[e] at c ⊢;dsimp only at g c;have j:(aI.mk false (m.filter (aI.mk true l).has)).rk N=(m.filter (aI.mk true l).has).length:=rfl;have k:(aI.mk true l).rk N=2 * N+1 - l.length:=rfl;omega
   . have e : (aI.mk true l).mt ⟨true, m⟩ = ⟨true, jl l m⟩ := by unfold aI.mt; rw [if_pos rfl, if_pos rfl]
     rw[e] at c ⊢;have d:l.Sublist (jl l m):=bk.sub h.inc (r_ f.inc) fun x n=>jz.2 (.inl n)
     have p:=d.length_le;dsimp only at g c;have j:(aI.mk true (jl l m)).rk N=2 * N+1 - (jl l m).length:=rfl;have k:(aI.mk true l).rk N=2 * N+1 - l.length:=rfl
     grind
end Go.Ago
section
namespace Go.Ago
open List Nat
def iO (R:AV->Value->Prop)(es:List (Int×AV))(a:List MapEntry):Prop:=
 ∃f:Int->MapEntry,(∀k x,(k,x)∈es->f k∈a∧(f k).key = .int .i64 k)∧(∀e∈a,∃k x,(k,x)∈es∧e=f k)∧∀k x,(k,x)∈es->R x (f k).val
theorem iO.mono {R R':AV->Value->Prop}{es:List (Int×AV)}{a:List MapEntry}(c:∀x v,R x v->R' x v)(h:iO R es a):iO R' es a:=by
 obtain⟨f,d,g,b⟩:=h;exact⟨f,d,g,fun k x e=>c _ _ (b k x e)⟩
def fM (c:Ctx)(w:World)(B:fo):an->Prop
 | .arr p f=>∃h t,w.heap[B.b]? = some (.cells h t (0,0))∧B.s+B.n≤h.size∧B.sz=p∧f.length * p≤B.n ∧
  ∀(i:Nat) e,f[i]? = some e->e.length=p∧∀(j:Nat) x,e[j]? = some x->∃v,h[B.s+(i * p+j)]? = some v∧Rel c w x v
 | .dJ s q=>w.heap[B.b]? = some (.stringIter ⟨s.toArray⟩ q)∧B.s=0∧B.sz=0
 | .lp z m A u o=>∃r g,w.heap[B.b]? = some (.loop r)∧r.state=z∧r.pending=m∧r.tmps.size=u∧o = .rangeFunc g r.params r.assign r.body∧∀t x,(t,x)∈A->∃v,r.tmps[t]? = some v∧Rel c w x v
 | .mp f=>(B.s=0∧B.sz=0)∧∃d a,w.heap[B.b]? = some (.map d a)∧py d a∧cu f∧iO (Rel c w) f d.toList
 | .cm y f=>(B.s=0∧B.sz=0)∧∃r d a seen,w.heap[B.b]? = some (.mapIter (some r) a seen a)∧c.aq r∧w.heap[r]? = some (.map d a)∧py d a∧cu f∧iO (Rel c.bare w) f (d.toList.filter fun e=>!seen.contains e.born) ∧
  ∀k x,y=some (k,x)->∃(l:Array Nat) (e:MapEntry),seen=l.push e.born∧e∈d.toList∧e.key = .int .i64 k∧Rel c.bare w x e.val
theorem fM.mono {c c':Ctx}{w w':World}{B:fo}{o:an}(h:fM c w B o)(d:w'.heap[B.b]? = w.heap[B.b]?)(J:∀{x v},Rel c w x v->Rel c' w' x v)(z:∀b,c.aq b->c'.aq b∧w'.heap[b]? = w.heap[b]?):fM c' w' B o:=by
 cases o with
 | arr P D =>
   obtain⟨arr,t,n,f,m,l,u⟩:=h;exact⟨arr,t,d.trans n,f,m,l,fun i e M=>⟨(u i e M).1,fun j x R=>by grind⟩⟩
 | dJ s I=>exact⟨d.trans h.1,h.2⟩
 | lp T C Q K E =>
   obtain⟨r,g,n,f,m,l,u,F⟩:=h;exact⟨r,g,d.trans n,f,m,l,u,fun t x V=>by grind⟩
 | mp D =>
   obtain⟨A,p,a,n,f,m,l⟩:=h;exact⟨A,p,a,d.trans n,f,m,l.mono fun _ _ h=>J h⟩
 | cm L D =>
   obtain⟨A,r,p,a,seen,n,f,m,l,u,F,U⟩:=h;have q:∀x v,Rel c.bare w x v->Rel c'.bare w' x v:=fun _ _ h=>h.mono ⟨fun _ _ h=>(by cases h),fun b d=>(z b d).1⟩ fun b d=>(z b d).2
   exact⟨A,r,p,a,seen,d.trans n,(z r f).1,(z r f).2.trans m,l,u,F.mono q,fun k x N=>by
    grind⟩
def Own (c:Ctx)(H:aj)(b:Nat):Prop:=∃k o B,H.get k=some o∧c.f k=some B∧B.b=b
abbrev eZ:=Nat->Option (List AV)
structure aN (G:eZ)(c:Ctx)(w:World)(H:aj):Prop where
 bN:∀b,c.aq b->b<w.heap.size
 bW:∀k B,c.f k=some B->B.b<w.heap.size
 obj:∀k o,H.get k=some o->∃B,c.f k=some B∧¬c.aq B.b∧fM c w B o
 inj:∀k k' o o' B B',H.get k=some o->H.get k'=some o'->c.f k=some B->c.f k'=some B'->B.b=B'.b->k=k'
 bS:∀g cs,G g=some cs->Rel c w (.bm cs) (.pointer (some ⟨g,0,none⟩))
structure Ext (c:Ctx)(w:World)(H:aj)(c':Ctx)(w':World)(H':aj):Prop where
 le:c.le c'
 os:w'.os=w.os
 tape:w'.tape=w.tape
 output:w'.output=w.output
 size:w.heap.size≤w'.heap.size
 other:∀b,b<w.heap.size->¬Own c H b->w'.heap[b]? = w.heap[b]?
 ez:∀b,c'.aq b->c.aq b∨Own c H b∨w.heap.size≤b
 own:∀b,Own c' H' b->Own c H b∨w.heap.size≤b
section
variable {G:eZ} {c c' c'':Ctx} {w w' w'':World} {H H' H'':aj}
theorem Ext.refl (c:Ctx)(w:World)(H:aj):Ext c w H c w H:=
 ⟨.refl c,rfl,rfl,rfl,zbm _,fun _ _ _=>rfl,fun _ h => .inl h,fun _ h => .inl h⟩
theorem Ext.trans (h:Ext c w H c' w' H')(d:Ext c' w' H' c'' w'' H''):Ext c w H c'' w'' H'':={
 le:=h.le.trans d.le
 os:=d.os.trans h.os
 tape:=d.tape.trans h.tape
 output:=d.output.trans h.output
 size:=zbu h.size d.size
 other b e l := (d.other b (zbJ e h.size) (fun k=>by
  rcases h.own b k with a|a<;>grind)).trans (h.other b e l)
 ez b e:=by
  rcases d.ez b e with a|a|a
  . exact h.ez b a
  . rcases h.own b a with j | j
    . grind
    omega
  exact .inr (.inr (zbu h.size a))
 own b e:=by
  rcases d.own b e with a|a
  . exact h.own b a
  exact .inr (zbu h.size a) }
theorem aN.kQ (h:aN G c w H){b:Nat}(i:c.aq b):¬Own c H b:=by
 rintro⟨k,o,B,d,f,rfl⟩
 obtain⟨g,a,e,_⟩:=h.obj k o d
 grind
theorem Ext.aq (h:Ext c w H c' w' H')(d:aN G c w H):∀b,c.aq b->w'.heap[b]? = w.heap[b]?:=
 fun b a=>h.other b (d.bN b a) (d.kQ a)
theorem Ext.rel (h:Ext c w H c' w' H')(b:aN G c w H){x:AV}{v:Value}(a:Rel c w x v):Rel c' w' x v:=a.mono h.le (h.aq b)
theorem Ext.drew (h:Ext c w H c' w' H'):Ext c w H c' w'.drew H':=⟨h.le,h.os,h.tape,h.output,h.size,h.other,h.ez,h.own⟩
theorem Rel.drew {x:AV}{v:Value}(h:Rel c w x v):Rel c w.drew x v:=h.mono (.refl c) (fun _ _=>rfl)
theorem aN.drew (h:aN G c w H):aN G c w.drew H:=
 ⟨h.bN,h.bW,fun k o e=>by
  obtain⟨B,b,d,a⟩:=h.obj k o e;exact⟨B,b,d,a.mono rfl (fun f=>f.drew) (fun _ i=>⟨i,rfl⟩)⟩,
  h.inj,fun g j e=>(h.bS g _ e).drew⟩
theorem Ext.yr (c:Ctx)(w:World)(H:aj):Ext c w H c w.drew H:=(Ext.refl c w H).drew
theorem aN.congr (h:aN G c w H)(f:∀j,H'.get j=H.get j):aN G c w H':=
 ⟨h.bN,h.bW,fun k o e=>h.obj k o bj,fun k d o a B g e b=>h.inj k _ o a B _ bj bj,h.bS⟩
theorem Own.congr (e:∀j,H'.get j=H.get j){b:Nat}(h:Own c H b):Own c H' b:=by
 obtain⟨k,o,B,f,a,d⟩:=h;exact⟨k,o,B,by grind,a,d⟩
theorem Ext.congr {K K':aj}(h:Ext c w H c' w' H')(d:∀j,K.get j=H.get j)(e:∀j,K'.get j=H'.get j):Ext c w K c' w' K':=
 ⟨h.le,h.os,h.tape,h.output,h.size,fun b a g=>h.other b a (fun f=>g (f.congr d)),fun b a=>(h.ez b a).imp id (Or.imp (Own.congr d) id),fun b a=>(h.own b (Own.congr (fun j=>(e j).symm) a)).imp (Own.congr d) id⟩
theorem aN.cell (h:aN G c w H){k sz:Nat}{es:List (List AV)}{B:fo}(o:H.get k=some (.arr sz es))(m:c.f k=some B){i j:Nat}{e:List AV}{x:AV}(l:es[i]? = some e)(n:e[j]? = some x) :
 ∃v,w.cell? ⟨B.b,B.s+(i * sz+j),none⟩=some v∧w.frozen? ⟨B.b,B.s+(i * sz+j),none⟩=false∧Rel c w x v:=by
 obtain⟨y,a,C,p,t,d,A,r,z,q⟩:=h.obj k _ o;rw[m] at *;cases a;obtain⟨v,u,g⟩:=(q i e l).2 j x n;exact⟨v,by simp[World.cell?,d,u],by simp[World.frozen?,d],g⟩
theorem aN.sz (h:aN G c w H){k sz:Nat}{es:List (List AV)}{B:fo}(d:H.get k=some (.arr sz es))(j:c.f k=some B) :
 B.sz=sz∧es.length * sz≤B.n∧∀(i:Nat) e,es[i]? = some e->e.length=sz:=by
 obtain⟨q,b,l,a,t,o,p,g,r,m⟩:=h.obj k _ d
 grind
theorem add_plain (b o n:Nat):(⟨b,o,none⟩:Addr).add n=⟨b,o+n,none⟩:=by
 unfold Addr.add;simp
theorem vO (a:Addr)(i j:Nat):(a.add i).add j=a.add (i+j):=by
 unfold Addr.add
 grind
theorem Jh {c:Ctx}{w:World}:∀{cs:List AV} (f:Nat->Value),(∀(i:Nat) x,cs[i]? = some x->Rel c w x (f i))->aP c w cs ((List.range cs.length).map f)
 | cs, f, h => ⟨ag, fun i x v e a => by
   grind⟩
theorem aN.loadCells (h:aN G c w H)(P:Program){k sz:Nat}{es:List (List AV)}{B:fo}(p:H.get k=some (.arr sz es))(l:c.f k=some B){i:Nat}{e:List AV}(m:es[i]? = some e)
 (off n:Nat)(t:off+n≤e.length) :
 ∃vs:List Value,(Go.loadCells ⟨B.b,B.s+(i * sz+off),none⟩ n).run P w = .ok vs.toArray w∧aP c w ((e.drop off).take n) vs:=by
 have u:((e.drop off).take n).length=n:=by simp;omega
 have a:∀j:Nat,∃v,j<n->w.cell? ((⟨B.b,B.s+(i * sz+off),none⟩:Addr).add j)=some v∧∀x,((e.drop off).take n)[j]? = some x->Rel c w x v:=by
  intro j
  by_cases g:j<n
  . have o : e[off + j]? = some e[off + j] := zbf aa
    obtain⟨v,q,_,y⟩:=h.cell p l m o;refine⟨v,fun _=>⟨by rw[add_plain,Nat.add_assoc,Nat.add_assoc];exact q,fun x r=>?_⟩⟩
    grind
  . exact⟨undef,fun h=>absurd h g⟩
 let f:Nat->Value:=fun i=>(a i).choose
 have d:∀j,j<n->w.cell? ((⟨B.b,B.s+(i * sz+off),none⟩:Addr).add j)=some (f j)∧∀x,((e.drop off).take n)[j]? = some x->Rel c w x (f j):=fun i=>(a i).choose_spec
 refine⟨(List.range n).map f,run_loadCells w _ n f fun j g=>(d j g).1,?_⟩
 have := Jh (c := c) (w := w) (cs := (e.drop off).take n) f (fun i x r=>by
  grind)
 grind
theorem Vv (P:Program){cs:List AV}{a:Addr}{vs:List Value}(d:cs.length=vs.length)(f:∀(i:Nat) v,vs[i]? = some v->w.cell? (a.add i)=some v)
 (b:∀(i:Nat) x v,cs[i]? = some x->vs[i]? = some v->Rel c w x v)(n:Nat)(h:n≤cs.length) :
 (Go.loadCells a n).run P w = .ok (vs.take n).toArray w∧aP c w (cs.take n) (vs.take n):=by
 refine⟨?_,(aP.take ⟨d,b⟩ n)⟩;have := run_loadCells_list (P := P) w a (vs.take n) (fun j v e=>by
  grind)
 grind
def lN (cs:List AV)(off:Nat)(vs:List AV):List AV:=cs.take off++vs++cs.drop (off+vs.length)
theorem DS (cs vs:List AV)(off i:Nat)(h:off+vs.length≤cs.length) :
 (lN cs off vs)[i]? = if i<off then cs[i]? else if i<off+vs.length then vs[i - off]? else cs[i]?:=by
 unfold lN
 grind
theorem Lu (cs vs:List AV)(off:Nat)(h:off+vs.length≤cs.length):(lN cs off vs).length=cs.length:=by
 unfold lN;grind
theorem aN.store (h:aN G c w H){k sz:Nat}{es es':List (List AV)}{B:fo}(hk:H.get k=some (.arr sz es))(R:c.f k=some B)(A:k+1<2 ^ 24)
 (off:Nat){vs:List Value}{xs:List AV}(hx:aP c w xs vs)(S:∀x∈xs,x.one=true)(hn:off+xs.length≤B.n)
 (T:es'.length * sz≤B.n)(U:∀(i:Nat) e,es'[i]? = some e->e.length=sz)
 (V:∀(i j:Nat) e x,es'[i]? = some e->e[j]? = some x->(i * sz+j<off∧∃D,es[i]? = some D∧D[j]? = some x)∨(off≤i * sz+j∧i * sz+j<off+xs.length∧xs[i * sz+j - off]? = some x) ∨
   (off+xs.length≤i * sz+j∧∃D,es[i]? = some D∧D[j]? = some x))(P:Program) :
 ∃w',(storeCells ⟨B.b,B.s+off,none⟩ vs).run P w = .ok () w'∧Ext c w H c w' (H.set 24 k (some (.arr sz es')))∧aN G c w' (H.set 24 k (some (.arr sz es'))):=by
 obtain⟨E,d,hi,m,t,X,hs,Q,hl,hc⟩:=h.obj k _ hk;rw[R] at d;cases d;have hvl:vs.length=xs.length:=hx.1.symm;have h1:∀v∈vs,v.oneCell'=true:=by
  intro v hv;obtain⟨i,L,rfl⟩:=zcv hv;have hxi:xs[i]? = some (xs[i]'aa):=zbf aa;have F:=hx.2 i _ _ hxi (zbf L);have ho:=F.WN (S _ (za9 _));cases hv':vs[i]<;>simp_all[Value.oneCell']
 have hbs:B.b<w.heap.size:=h.bW k B R;have u:=run_storeCells_at (P:=P) B.b (B.s+off) t vs 0 m w X aa h1;simp only[Nat.add_zero] at u;have y:=setRow_heap w B.b m ((m.toList.take (B.s+off)++vs++m.toList.drop (B.s+off+vs.length)).toArray) t (0,0) X
 generalize r:w.setRow B.b ((m.toList.take (B.s+off)++vs++m.toList.drop (B.s+off+vs.length)).toArray)=w' at u y
 have W:w'.heap.size=w.heap.size:=by subst r;simp[World.setRow]
 have I:∀b,b≠B.b->w'.heap[b]? = w.heap[b]?:=by
  intro b K;subst r;simp[World.setRow,zc3,Ne.symm K]
 have hos:w'.os=w.os:=by subst r;rfl
 have M:w'.tape=w.tape:=by subst r;rfl
 have Y:w'.output=w.output:=by subst r;rfl
 have Z:∀b,Own c (H.set 24 k (some (.arr sz es'))) b->Own c H b:=by
  rintro b ⟨z,o,E,a,d,rfl⟩
  rw[Tr.eQ 24 k _ H z A] at a
  by_cases e:z=k
  . subst e;exact⟨z,_,E,hk,d,rfl⟩
  . rw[if_neg e] at a;exact⟨z,o,E,a,d,rfl⟩
 have p:Ext c w H c w' (H.set 24 k (some (.arr sz es'))):=
  ⟨.refl c,hos,M,Y,aa,fun b q hno=>I b (fun e=>hno ⟨k,_,B,hk,R,e.symm⟩),fun b q => .inl q,fun b q => .inl (Z b q)⟩
 have l:∀{x v},Rel c w x v->Rel c w' x v:=fun F=>p.rel h F
 refine⟨w',u,p,⟨fun b q=>by rw[W];exact h.bN b q,fun z E e=>by rw[W];exact h.bW z E e,?_,?_,fun g cs e=>l (h.bS g cs e)⟩⟩
 . intro z o a
   rw[Tr.eQ 24 k _ H z A] at a
   by_cases e:z=k
   . subst e
     simp only[if_true,zbg] at a;subst a;refine⟨B,R,hi,_,t,y,by grind,Q,T,fun i e he=>⟨U i e he,fun j x hj=>?_⟩⟩
     have htl:(m.toList.take (B.s+off)).length=B.s+off:=by simp;omega
     rcases V i j e x he hj with⟨hlt,D,N,C⟩|⟨hge,hlt,C⟩|⟨hge,D,N,C⟩
     . obtain ⟨v, hv, F⟩ := (hc i D N).2 j x C
       refine⟨v,?_,l F⟩;rw[zbR,zch,zbM aa,zcR,if_pos aa]
       grind
     . obtain ⟨v, hv, F⟩ := hx.get C
       refine⟨v,?_,l F⟩;rw[zbR,zch,zbv aa,htl,zbM aa];rw[<-hv];congr 1;omega
     . obtain ⟨v, hv, F⟩ := (hc i D N).2 j x C
       refine⟨v,?_,l F⟩;rw[zbR,zbv bj,zbk,htl,zcF,hvl];rw[show B.s+off+xs.length+(B.s+(i * sz+j) - (B.s+off+xs.length))=B.s+(i * sz+j) by omega]
       grind
   . rw [if_neg e] at a
     obtain⟨E,d,L,ho'⟩:=h.obj z o a;refine⟨E,d,L,?_⟩;have K:E.b≠B.b:=fun e'=>e (h.inj z k o _ E B a hk d R e')
     exact ho'.mono (I _ K) l (fun b X=>⟨p.le.aq b X,p.aq h b X⟩)
 . intro k1 k2 o1 o2 B1 B2 g1 g2 f1 f2 eb
   rw[Tr.eQ 24 k _ H _ A] at g1 g2;have O:∃o,H.get k1=some o:=by
    by_cases e:k1=k
    . grind
    . grind
   have J:∃o,H.get k2=some o:=by
    by_cases e:k2=k
    . grind
    . grind
   obtain⟨_,O⟩:=O;obtain⟨_,J⟩:=J;exact h.inj k1 k2 _ _ B1 B2 O J f1 f2 eb
def Ctx.bind (c:Ctx)(k:Nat)(B:fo):Ctx:=⟨fun j=>if j=k then some B else c.f j,c.aq⟩
theorem Ctx.Cs {k:Nat}{B:fo}(h:c.f k=none):c.le (c.bind k B):=
 ⟨fun j p e=>by
  unfold Ctx.bind
  grind,fun _ e=>e⟩
theorem aN.alloc (h:aN G c w H){k:Nat}(Q:c.f k=none)(m:k+1<2 ^ 24)(t:TypeId){arr:Array Value}{sz:Nat}{es:List (List AV)}{n:Nat}(hn:n≤arr.size)(Z:es.length * sz≤n)
 (J:∀(i:Nat) e,es[i]? = some e->e.length=sz∧∀(j:Nat) x,e[j]? = some x->∃v,arr[i * sz+j]? = some v∧Rel c w x v) :
 Ext c w H (c.bind k ⟨w.heap.size,0,n,sz⟩) (w.alloc (.cells arr t)) (H.set 24 k (some (.arr sz es)))∧aN G (c.bind k ⟨w.heap.size,0,n,sz⟩) (w.alloc (.cells arr t)) (H.set 24 k (some (.arr sz es))):=by
 have S:(w.alloc (.cells arr t)).heap.size=w.heap.size+1:=World.size_alloc w _;have r:∀b,b<w.heap.size->(w.alloc (.cells arr t)).heap[b]? = w.heap[b]?:=fun b p=>Go.RowKit.Below.heap_alloc w _ b p
 have N:c.le (c.bind k ⟨w.heap.size,0,n,sz⟩):=Ctx.Cs Q;have Y:H.get k=none:=by
  cases e:H.get k with
  | none=>rfl
  | some o =>
    obtain⟨B,hB,_⟩:=h.obj k o e
    grind
 have y:(c.bind k ⟨w.heap.size,0,n,sz⟩).f k=some ⟨w.heap.size,0,n,sz⟩:=by simp[Ctx.bind]
 have l:∀j,j≠k->(c.bind k ⟨w.heap.size,0,n,sz⟩).f j=c.f j:=fun j E=>by simp[Ctx.bind,E]
 have d:Ext c w H (c.bind k ⟨w.heap.size,0,n,sz⟩) (w.alloc (.cells arr t)) (H.set 24 k (some (.arr sz es))):=by
  refine⟨N,rfl,rfl,rfl,aa,fun b p _=>r b p,fun b p => .inl p,?_⟩
  rintro b ⟨u,o,M,a,q,rfl⟩
  rw[Tr.eQ 24 k _ H u m] at a
  by_cases e:u=k
  . grind
  . rw[if_neg e] at a;rw[l u e] at q;exact .inl ⟨u,o,M,a,q,rfl⟩
 have s:∀{x v},Rel c w x v->Rel (c.bind k ⟨w.heap.size,0,n,sz⟩) (w.alloc (.cells arr t)) x v:=fun J=>d.rel h J
 refine⟨d,⟨fun b p=>by have:=h.bN b p;omega,?_,?_,?_,fun g R e=>s (h.bS g R e)⟩⟩
 . intro j B e
   by_cases E:j=k
   . grind
   . rw[l j E] at e;have:=h.bW j B e;omega
 . intro u o a
   rw[Tr.eQ 24 k _ H u m] at a
   by_cases e:u=k
   . subst e
     simp only[if_true,zbg] at a;subst a;refine⟨_,y,fun W=>Nat.lt_irrefl _ (h.bN _ W),arr,t,heap_alloc_new w _,by grind,rfl,Z,fun i e T=>⟨(J i e T).1,fun j x E=>?_⟩⟩
     grind
   . rw [if_neg e] at a
     obtain⟨M,q,L,K⟩:=h.obj u o a;refine⟨M,by grind,L,?_⟩
     exact K.mono (r _ (h.bW _ _ q)) s (fun b p=>⟨d.le.aq b p,d.aq h b p⟩)
 . intro F D o1 o2 U V O P A z X
   rw[Tr.eQ 24 k _ H _ m] at O P
   by_cases I:F=k<;>by_cases C:D=k
   . omega
   . subst I;rw[y] at A;cases A;rw[l D C] at z;have:=h.bW _ _ z;grind
   . subst C;rw[y] at z;cases z;rw[l F I] at A;have:=h.bW _ _ A;grind
   . rw [if_neg I] at O; rw [if_neg C] at P; rw [l F I] at A; rw [l D C] at z
     exact h.inj F D _ _ U V O P A z X
theorem aN.vR (h:aN G c w H){k:Nat}(Q:c.f k=none)(p:k+1<2 ^ 24)(ob:Obj)(o:an){sz n:Nat}(W:∀(c':Ctx) (w':World),w'.heap[w.heap.size]? = some ob->(∀{x v},Rel c w x v->Rel c' w' x v)->(∀b,c.aq b->c'.aq b∧w'.heap[b]? = w.heap[b]?)->fM c' w' ⟨w.heap.size,0,n,sz⟩ o) :
 Ext c w H (c.bind k ⟨w.heap.size,0,n,sz⟩) (w.alloc ob) (H.set 24 k (some o))∧aN G (c.bind k ⟨w.heap.size,0,n,sz⟩) (w.alloc ob) (H.set 24 k (some o)):=by
 have O:(w.alloc ob).heap.size=w.heap.size+1:=World.size_alloc w _;have r:∀b,b<w.heap.size->(w.alloc ob).heap[b]? = w.heap[b]?:=fun b l=>Go.RowKit.Below.heap_alloc w _ b l
 have E:c.le (c.bind k ⟨w.heap.size,0,n,sz⟩):=Ctx.Cs Q;have t:(c.bind k ⟨w.heap.size,0,n,sz⟩).f k=some ⟨w.heap.size,0,n,sz⟩:=by simp[Ctx.bind]
 have i:∀j,j≠k->(c.bind k ⟨w.heap.size,0,n,sz⟩).f j=c.f j:=fun j N=>by simp[Ctx.bind,N]
 have a:Ext c w H (c.bind k ⟨w.heap.size,0,n,sz⟩) (w.alloc ob) (H.set 24 k (some o)):=by
  refine⟨E,rfl,rfl,rfl,aa,fun b l _=>r b l,fun b l => .inl l,?_⟩
  rintro b ⟨s,F,K,d,q,rfl⟩
  rw[Tr.eQ 24 k _ H s p] at d
  by_cases e:s=k
  . grind
  . rw[if_neg e] at d;rw[i s e] at q;exact .inl ⟨s,F,K,d,q,rfl⟩
 have m:∀{x v},Rel c w x v->Rel (c.bind k ⟨w.heap.size,0,n,sz⟩) (w.alloc ob) x v:=fun R=>a.rel h R
 refine⟨a,⟨fun b l=>by have:=h.bN b l;omega,?_,?_,?_,fun g V e=>m (h.bS g V e)⟩⟩
 . intro j B e
   by_cases N:j=k
   . grind
   . rw[i j N] at e;have:=h.bW j B e;omega
 . intro s F d
   rw[Tr.eQ 24 k _ H s p] at d
   by_cases e:s=k
   . subst e
     simp only[if_true,zbg] at d;subst d;exact⟨_,t,fun P=>Nat.lt_irrefl _ (h.bN _ P),W _ _ (heap_alloc_new w _) m (fun b l=>⟨a.le.aq b l,a.aq h b l⟩)⟩
   . rw [if_neg e] at d
     obtain⟨K,q,I,J⟩:=h.obj s F d;refine⟨K,by grind,I,?_⟩
     exact J.mono (r _ (h.bW _ _ q)) m (fun b l=>⟨a.le.aq b l,a.aq h b l⟩)
 . intro A C Y X S T M L y u U
   rw[Tr.eQ 24 k _ H _ p] at M L
   by_cases D:A=k<;>by_cases z:C=k
   . omega
   . subst D;rw[t] at y;cases y;rw[i C z] at u;have:=h.bW _ _ u;grind
   . subst z;rw[t] at u;cases u;rw[i A D] at y;have:=h.bW _ _ y;grind
   . rw [if_neg D] at M; rw [if_neg z] at L; rw [i A D] at y; rw [i C z] at u
     exact h.inj A C _ _ S T M L y u U
theorem aN.bV (h:aN G c w H){k:Nat}{O:an}{B:fo}(A:H.get k=some O)(D:c.f k=some B)(l:k+1<2 ^ 24)(ob:Obj)(o:an)
 (ho:∀w':World,w'.heap[B.b]? = some ob->(∀{x v},Rel c w x v->Rel c w' x v)->(∀b,c.aq b->w'.heap[b]? = w.heap[b]?)->fM c w' B o) :
 Ext c w H c { w with heap:=w.heap.setIfInBounds B.b ob } (H.set 24 k (some o))∧aN G c { w with heap:=w.heap.setIfInBounds B.b ob } (H.set 24 k (some o)):=by
 have J:B.b<w.heap.size:=h.bW k B D;have hi:¬c.aq B.b:=by
  obtain⟨n,P,U,_⟩:=h.obj k O A;rw[D] at P;cases P;exact U
 generalize t:({ w with heap:=w.heap.setIfInBounds B.b ob }:World)=w'
 have z:w'.heap.size=w.heap.size:=by subst t;simp
 have M:w'.heap[B.b]? = some ob:=by subst t;simp[J]
 have p:∀b,b≠B.b->w'.heap[b]? = w.heap[b]?:=by
  intro b s;subst t;simp[zcM,Ne.symm s]
 have y:∀b,Own c (H.set 24 k (some o)) b->Own c H b:=by
  rintro b ⟨i,C,n,a,j,rfl⟩
  rw[Tr.eQ 24 k _ H i l] at a
  by_cases e:i=k
  . subst e;exact⟨i,_,n,A,j,rfl⟩
  . rw[if_neg e] at a;exact⟨i,C,n,a,j,rfl⟩
 have d:Ext c w H c w' (H.set 24 k (some o)):=
  ⟨.refl c,by grind,by grind,by grind,aa,fun b _ E=>p b (fun e=>E ⟨k,_,B,A,D,e.symm⟩),fun b m => .inl m,fun b m => .inl (y b m)⟩
 have q:∀{x v},Rel c w x v->Rel c w' x v:=fun Q=>d.rel h Q
 refine⟨d,⟨fun b m=>by rw[z];exact h.bN b m,fun i n e=>by rw[z];exact h.bW i n e,?_,?_,fun g S e=>q (h.bS g S e)⟩⟩
 . intro i C a
   rw[Tr.eQ 24 k _ H i l] at a
   by_cases e:i=k
   . grind
   . rw [if_neg e] at a
     obtain⟨n,j,F,K⟩:=h.obj i C a;have s:n.b≠B.b:=fun R=>e (h.inj i k C _ n B a A j D R)
     exact⟨n,j,F,K.mono (p _ s) q (fun b N=>⟨d.le.aq b N,d.aq h b N⟩)⟩
 . intro I L o1 o2 X Y T W V Z eb
   rw[Tr.eQ 24 k _ H _ l] at T W;have u:∃o,H.get I=some o:=by
    by_cases e:I=k
    . grind
    . grind
   have r:∃o,H.get L=some o:=by
    by_cases e:L=k
    . grind
    . grind
   obtain⟨_,u⟩:=u;obtain⟨_,r⟩:=r;exact h.inj I L _ _ X Y u r V Z eb
theorem aN.drop (h:aN G c w H)(k:Nat)(d:k+1<2 ^ 24):Ext c w H c w (H.set 24 k none)∧aN G c w (H.set 24 k none):=by
 have a:∀j o,(H.set 24 k none).get j=some o->H.get j=some o:=by
  intro j o e;rw[Tr.eQ _ k _ H j d] at e
  grind
 refine⟨⟨.refl c,rfl,rfl,rfl,zbm _,fun _ _ _=>rfl,fun _ e => .inl e,?_⟩,⟨h.bN,h.bW,fun j o e=>h.obj j o (a j o e),fun p q r s t u n l=>h.inj _ _ _ _ _ _ (a _ _ n) (a _ _ l),h.bS⟩⟩
 rintro b ⟨i,o,m,g,f,rfl⟩
 exact .inl ⟨i,o,m,a _ _ g,f,rfl⟩
theorem aN.rename (h:aN G c w H){k k':Nat}(F:k+1<2 ^ 24)(q:k'+1<2 ^ 24)(u:c.f k'=none){sz:Nat}{es es':List (List AV)}{B:fo}(N:H.get k=some (.arr sz es))(K:c.f k=some B)
 (off n:Nat)(hn:off * sz+n≤B.n)(O:es'.length * sz≤n)(I:∀(i:Nat) x,es'[i]? = some x->es[off+i]? = some x) :
 Ext c w H (c.bind k' ⟨B.b,B.s+off * sz,n,sz⟩) w ((H.set 24 k none).set 24 k' (some (.arr sz es')))∧aN G (c.bind k' ⟨B.b,B.s+off * sz,n,sz⟩) w ((H.set 24 k none).set 24 k' (some (.arr sz es'))):=by
 have cF:k≠k':=by rintro rfl;rw[K] at u;cases u
 have r:c.le (c.bind k' ⟨B.b,B.s+off * sz,n,sz⟩):=Ctx.Cs u;have l:(c.bind k' ⟨B.b,B.s+off * sz,n,sz⟩).f k'=some ⟨B.b,B.s+off * sz,n,sz⟩:=by simp[Ctx.bind]
 have a:∀j,j≠k'->(c.bind k' ⟨B.b,B.s+off * sz,n,sz⟩).f j=c.f j:=fun j m=>by simp[Ctx.bind,m]
 have M:∀j o,((H.set 24 k none).set 24 k' (some (.arr sz es'))).get j=some o->(j=k'∧o = .arr sz es')∨(j≠k'∧j≠k∧H.get j=some o):=by
  intro j o e;rw[Tr.eQ 24 k' _ _ j q,Tr.eQ 24 k _ H j F] at e
  by_cases y:j=k'
  . grind
  . grind
 have p:∀{x v},Rel c w x v->Rel (c.bind k' ⟨B.b,B.s+off * sz,n,sz⟩) w x v:=fun hr=>hr.mono r (fun _ _=>rfl)
 obtain⟨B0,J,hi,R,t,S,hs,hsz0,hl,hc⟩:=h.obj k _ N;rw[K] at J;cases J;refine⟨⟨r,rfl,rfl,rfl,zbm _,fun _ _ _=>rfl,fun _ e => .inl e,?_⟩,⟨h.bN,?_,?_,?_,fun g cs e=>p (h.bS g cs e)⟩⟩
 . rintro b ⟨j, o, E, m, d, rfl⟩
   rcases M j o m with⟨rfl,_⟩|⟨y,_,A⟩
   . rw[l] at d;cases d;exact .inl ⟨k,_,B,N,K,rfl⟩
   . rw[a j y] at d;exact .inl ⟨j,o,E,A,d,rfl⟩
 . intro j E e
   by_cases m:j=k'
   . grind
   . rw[a j m] at e;exact h.bW j E e
 . intro j o m
   rcases M j o m with⟨rfl,rfl⟩|⟨y,V,A⟩
   . refine ⟨_, l, hi, R, t, S, by grind, rfl, O, fun i e he => ⟨(hc _ e (I i e he)).1, fun j x m => ?_⟩⟩
     grind
   . obtain ⟨E, d, P, Q⟩ := h.obj j o A
     refine⟨E,by grind,P,?_⟩
     exact Q.mono rfl p (fun b S=>⟨r.aq b S,rfl⟩)
 . intro Y W o1 o2 X Z g1 g2 z C T
   rcases M _ _ g1 with⟨rfl,_⟩|⟨y,V,A⟩<;>rcases M _ _ g2 with⟨e2,_⟩|⟨L,U,D⟩
   . omega
   . rw [l] at z; cases z; rw [a _ L] at C
     exact absurd (h.inj k W _ _ B Z N D K C T).symm U
   . subst e2; rw [l] at C; cases C; rw [a _ y] at z
     exact absurd (h.inj Y k _ _ X B A N z K T) V
   . rw [a _ y] at z; rw [a _ L] at C
     exact h.inj Y W _ _ X Z A D z C T
end
end Go.Ago
end
