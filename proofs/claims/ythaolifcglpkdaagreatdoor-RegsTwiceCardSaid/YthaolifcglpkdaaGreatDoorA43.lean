/-
  Part A43: lemmas, each with its own conditions.
-/
import Derived.Test.YthaolifcglpkdaaGreatDoorA42
set_option maxRecDepth 100000
set_option maxHeartbeats 0
set_option linter.all false
namespace Go.Ago
open Go.Proofs List Nat Tryz
attribute [local irreducible] bN bM aZ bK b_ wr bp bL comp DC DP DW DV
attribute [local irreducible] dJ ct aL cH dP dI ec dX cB dM dR bV bn bB eA aP bC
attribute [local irreducible] eW dz bm bO kf
theorem qwE {P:Prop}(h:P:=by first|(((repeat' first|exact True.intro|apply And.intro|rfl|exact congrArg (fun v=>an.arr 2 [[i64 kn,v]]) (dW aB aB q_ aB)|exact dW aB aB q_ aB|exact eS aB (gl (f:=ic) (fun _=>by rfl) aB ag)|exact eS aB (Sv (f:=Ins.cells) (fun _=>by rfl) ag)|exact dZ (f:=ic) (fun _=>by rfl)|exact cX (f:=ic) (fun _=>by rfl)|exact dZ (f:=Ins.cells) (fun _=>by rfl)|exact cX (f:=Ins.cells) (fun _=>by rfl)|(refine cw ?_ ?_ ?_<;>(try dsimp only)<;>omega)));done)|fail):P:=h
theorem qwR {P:Prop}(h:P:=by first|(((repeat' first|exact True.intro|apply And.intro|rfl|exact qB (s:=2) rfl|exact qB (s:=2) (by rw[<-Jw hnl hnq (by rw[CM hins])];congr 1;simp)|exact xY (s:=2)|exact dZ (sz:=1) (f:=ic) (fun _=>by rfl)|exact cX (sz:=1) (f:=ic) (fun _=>by rfl)|(refine cw ?_ ?_ ?_<;>(try dsimp only)<;>omega)));done)|fail):P:=h
theorem qwU {P:Prop}(h:P:=by first|(((repeat' first|exact True.intro|apply And.intro|rfl|exact qB (s:=2) rfl|exact xY (s:=2)|exact dZ (sz:=1) (f:=ic) (fun _=>by rfl)|exact cX (sz:=1) (f:=ic) (fun _=>by rfl)|(refine cw ?_ ?_ ?_<;>(try dsimp only)<;>omega)));done)|fail):P:=h
theorem qwD {P:Prop}(h:P:=by first|(((conv=>whnf);(exact qwE));done)|fail):P:=h
theorem YV (c:Cd)(k:Int)(q n:Nat)(h:tR c k q n)(h0:∀hq:q<c.b.l.length,0<c.b.l[q].ins.l.length) :
 af 46 [c.av,i64 k,i64 q,aU (bC n),.bool true] (fun ae=>∃(out:Cd) (v:AV) (of:List Int),ae = .ret (.ao [out.av,v])∧Told v (aU of)∧mR c k q (c.b.l[q]'h.hq).ins.l (c.b.l[q]'h.hq).aj out of):=by
 obtain⟨hq,h70,hk,hn,hrg,hlen,hiv,hlst,hgto,hall,hmv⟩:=h;have hz:=h0 hq;have hcl:=c.b.h;have cF:c.b.l≠[]:=fun e=>by rw[e] at hq;simp at hq
 refine zw func46 ?_;refine zk ?_
 repeat' ((first|refine ay.mk _ (bI (l:=c.b.l) (i:=q) hq) ?_)<;>refine zk ?_)
 have hkw:wr .i64 (k+(c.b.l[q]).aj)=k+(c.b.l[q]).aj:=aF aa aa
 generalize hkn:wr .i64 (k+(c.b.l[q]).aj)=kn at hkw
 refine DW.ov 1 (.arr 1 [[aU (bC n)]]) [(1,_),(2,_),(4,_),(5,_),(10,_),(11,_),(12,(.fn (.func 89) [] [.bq [aU (bC n)]])),(13,_),(42,_),(43,_),(44,_),(14,_),(15,_)] [(0,_),(2,_),(15,_)] rfl ⟨⟨_,rfl,.inl rfl⟩,⟨⟨_,rfl,.inl rfl⟩,⟨⟨_,rfl,.inl rfl⟩,⟨⟨_,rfl,.inl rfl⟩,⟨⟨_,rfl,.inl rfl⟩,⟨⟨_,rfl,.inl rfl⟩,⟨⟨_,rfl,.inr rfl⟩,⟨⟨_,rfl,.inl rfl⟩,⟨⟨_,rfl,.inl rfl⟩,⟨⟨_,rfl,.inl rfl⟩,⟨⟨_,rfl,.inl rfl⟩,⟨⟨_,rfl,.inl rfl⟩,⟨⟨_,rfl,.inl rfl⟩,trivial⟩⟩⟩⟩⟩⟩⟩⟩⟩⟩⟩⟩⟩ ⟨⟨ab,_,rfl,.inl rfl⟩,⟨⟨ab,_,rfl,.inl rfl⟩,⟨⟨ab,_,rfl,.inl rfl⟩,trivial⟩⟩⟩ ?_;refine DW.aO aC aD [1, 2, 4, 5, 10, 11, 12, 13, 42, 43] [15] 8000 (fun x:{x:n8 // x.ok k c.b.l[q].ins.l}=>match x.1 with
  | .z=>[(44,i64 ((0:Nat):Int)),(14,.ah),(15,.ah)]
  | .s m o os t ts r rs => [(44, i64 m), (14, .az 1000 0 ((os.map ic).length + 1) 1), (15, .az 2000 0 ((ts.map ic).length + 1) 1)]) (fun x=>match x.1 with
  | .z=>[(15,.arr 2 [[i64 kn,.ah]])]
  | .s m o os t ts r rs=>[(15,.arr 2 [[i64 kn,.az 3000 0 ((rs.map Ins.cells).length+1) 29]]),(1000,.arr 1 (ic o::os.map ic)),(2000,.arr 1 (ic t::ts.map ic)),(3000,.arr 29 (r.cells::rs.map Ins.cells))]) [(1000,.slot 14),(2000,.slot 15),(3000,.cell 15 1)] (fun x=>c.b.l[q].ins.l.length+1 - x.1.m) (⟨.z,trivial⟩) ?_
 refine zl fun x=>?_
 rcases x with⟨_|⟨m,o,os,t,ts,r,rs⟩,hx⟩
 . have hx0 := fB.start k c.b.l[q].ins.l
   have hmb:0≤c.b.l[q].ins.l.length:=zero_le _;refine zk ?_
   repeat' ((first|refine zf ?_|refine ay.mk _ (bI (l:=c.b.l[q].ins.l) (i:=0) aa) ?_|(refine zp ?_ ?_<;>first|exact⟨⟩|intro h)|(refine DC.pure rfl (Ak (c.b.l[q].ins.l[0]'aa) k n ⟨hk.1,aa⟩ aa (hlst _ (getElem_mem _)) (hiv _ (getElem_mem _)).hi (hmv _ (getElem_mem _))) ?_;rintro _ ⟨out,at_,rfl,hb⟩;obtain⟨y0,ys,rfl⟩:=Ai hb))<;>refine zk ?_)
   . have hlt : 0 < c.b.l[q].ins.l.length := aa
     have hob:=Aj hb;simp only[length_cons] at hob;refine DW.aO aC aD [1,2,4,5,10,11,12,13,15,16,17,18,19,42,43,44,45,46,47,48,49,50,51,52,53,54,55,56,57,58,59,60,61,62,63,64] [] 6000 (fun y:{y:Nat×List Int // y.2=([]:List Int)++(dV k 0 (c.b.l[q].ins.l[0]'aa)).take y.1∧y.1≤ys.length+1}=>[(65,i64 y.1.1),(14,fc 9000 1 (y.1.2.map ic))]) (fun y=>e_ 9000 1 (y.1.2.map ic)) [(9000,.slot 14)] (fun y=>ys.length+2 - y.1.1) (⟨(0,[]),rfl,zero_le _⟩) ?_
     (conv=>whnf)
     refine⟨?_,fun y=>?_⟩
     . conv => whnf
       (exact qwE)
     rcases y with⟨⟨j,_|⟨o2,os2⟩⟩,hy1,hy2⟩
     all_goals
      have hyl:=I0 hb hy1 hy2;dsimp only at hy1 hy2 hyl;simp only[length_cons,length_nil] at hyl
     . skip
       refine zg ?_
       repeat' ((first|refine zf ?_|(refine zp ?_ ?_<;>first|exact⟨⟩|intro h))<;>refine zg ?_)
       . (refine⟨⟨(j+1,[((0:Nat):Int)]),CD hb ez hy1 h,bG⟩,qwD,rfl,bG⟩)
       . (refine⟨⟨(j+1,[(-1:Int)]),CA hb ez hy1 h,bG⟩,qwD,rfl,bG⟩)
     . skip
       refine zg ?_
       repeat' ((first|refine Rq.mk (sO (f:=Ins.cells) (fun _=>rfl)) ?_|(refine Rq.mk (rA 304 rfl gW ab) ?_)|refine zf ?_|(refine Rq.mk (di 8 8000 ag rfl rfl gW ab) ?_)|(refine zp ?_ ?_<;>first|exact⟨⟩|intro h))<;>refine zg ?_)
       . (refine⟨⟨(j+1,o2::(os2++[((0:Nat):Int)])),CD hb ez hy1 h,bG⟩,qwD,rfl,bG⟩)
       . (refine⟨⟨(j+1,o2::(os2++[(-1:Int)])),CA hb ez hy1 h,bG⟩,qwD,rfl,bG⟩)
       . (refine⟨⟨.s (0+1) o2 os2 0 [] y0 ys,fB.next hx0 hlt hb hy1 (by simp only[length_cons];omega) rfl⟩,qwD,rfl,(by(show _ - _<_ - _);simp only[n8.m];omega)⟩)
 . have hx0 : fB k c.b.l[q].ins.l m (o :: os) (t :: ts) (r :: rs) := hx
   have hmb:=hx0.ml;have hofl:=hx0.gT;have htol:=hx0.tol;have hrl:=hx0.rl;simp only[length_cons] at hofl htol hrl;refine zk ?_
   repeat' ((first|refine zf ?_|(refine Rq.mk (di 8 8000 ag rfl rfl gW ab) ?_)|refine ay.mk _ (bI (l:=c.b.l[q].ins.l) (i:=m) aa) ?_|(refine zp ?_ ?_<;>first|exact⟨⟩|intro h)|(refine DC.pure rfl (Ak (c.b.l[q].ins.l[m]'aa) k n ⟨hk.1,aa⟩ aa (hlst _ (getElem_mem _)) (hiv _ (getElem_mem _)).hi (hmv _ (getElem_mem _))) ?_;rintro _ ⟨out,at_,rfl,hb⟩;obtain⟨y0,ys,rfl⟩:=Ai hb))<;>refine zk ?_)
   . have hlt : m < c.b.l[q].ins.l.length := aa
     have hob:=Aj hb;simp only[length_cons] at hob;refine DW.aO aC aD [1,2,4,5,10,11,12,13,15,16,17,18,19,42,43,44,45,46,47,48,49,50,51,52,53,54,55,56,57,58,59,60,61,62,63,64] [1000,8039] 6000 (fun y:{y:Nat×List Int // y.2=(o::os)++(dV k m (c.b.l[q].ins.l[m]'aa)).take y.1∧y.1≤ys.length+1}=>[(65,i64 y.1.1),(14,fc 9000 1 (y.1.2.map ic))]) (fun y=>(8039,.arr 1 (ic t::(ts++[(((rs.map Ins.cells).length+1:Nat):Int)]).map ic))::e_ 9000 1 (y.1.2.map ic)) [(9000,.slot 14)] (fun y=>ys.length+2 - y.1.1) (⟨(0,o::os),(append_nil _).symm,zero_le _⟩) ?_
     (conv=>whnf)
     refine⟨?_,fun y=>?_⟩
     . conv => whnf
       (exact qwE)
     rcases y with⟨⟨j,_|⟨o2,os2⟩⟩,hy1,hy2⟩
     all_goals
      have hyl:=I0 hb hy1 hy2;dsimp only at hy1 hy2 hyl;simp only[length_cons,length_nil] at hyl
     . exfalso;omega
     . skip
       refine zg ?_
       repeat' ((first|refine Rq.mk (sO (f:=Ins.cells) (fun _=>rfl)) ?_|refine zf ?_|(refine Rq.mk (di 8 8000 ag rfl rfl gW ab) ?_)|(refine Rq.mk (rB 304 ag rfl gW ab) ?_)|(refine zp ?_ ?_<;>first|exact⟨⟩|intro h))<;>refine zg ?_)
       . (refine⟨⟨(j+1,o2::(os2++[((m:Nat):Int)])),CD hb ez hy1 h,bG⟩,qwD,rfl,bG⟩)
       . (refine⟨⟨(j+1,o2::(os2++[(-1:Int)])),CA hb ez hy1 h,bG⟩,qwD,rfl,bG⟩)
       . (refine⟨⟨.s (m+1) o2 os2 t (ts++[(((rs.map Ins.cells).length+1:Nat):Int)]) r (rs++y0::ys),fB.next hx0 hlt hb hy1 (by simp only[length_cons];omega) ag⟩,qwD,rfl,(by(show _ - _<_ - _);simp only[n8.m];omega)⟩)
   . have hme : m = c.b.l[q].ins.l.length := aa
     have htl:∀x∈t::(ts++[(((rs.map Ins.cells).length+1:Nat):Int)]),0≤x:=fun x hx=>by
      rcases mem_cons.1 hx with rfl|hx
      . exact hx0.DS _ mem_cons_self
      . rcases mem_append.1 hx with hx | hx
        . exact hx0.DS _ (mem_cons_of_mem _ hx)
        . rw[mem_singleton.1 hx];exact Int.natCast_nonneg _
     have htn:(t::(ts++[(((rs.map Ins.cells).length+1:Nat):Int)])).length=c.b.l[q].ins.l.length+1:=by simp only[length_cons,length_append,length_nil];omega
     have hold:=hx0.old;have hrw1:(r::rs).length≤4 * c.b.l[q].ins.l.length:=by rw[<-hme];exact hx0.rl
     refine DW.ov 8033 _ [(2,_),(5,_),(10,_),(11,_),(13,_),(14,_),(15,.ak 1 ((t::(ts++[(((rs.map Ins.cells).length+1:Nat):Int)])).map ic)),(92,_),(93,_),(94,_)] [(0,_),(2,_),(15,_),(1000,_),(3000,_)] rfl ⟨⟨_,rfl,.inl rfl⟩,⟨⟨_,rfl,.inl rfl⟩,⟨⟨_,rfl,.inl rfl⟩,⟨⟨_,rfl,.inl rfl⟩,⟨⟨_,rfl,.inl rfl⟩,⟨⟨_,rfl,.inl rfl⟩,⟨⟨_,rfl,.inr (R_ (Sw aB ag) (NY (f:=ic) aB ag) rfl)⟩,⟨⟨_,rfl,.inl rfl⟩,⟨⟨_,rfl,.inl rfl⟩,⟨⟨_,rfl,.inl rfl⟩,trivial⟩⟩⟩⟩⟩⟩⟩⟩⟩⟩ ⟨⟨ab,_,rfl,.inl rfl⟩,⟨⟨ab,_,rfl,.inl rfl⟩,⟨⟨ab,_,rfl,.inl rfl⟩,⟨⟨ab,_,rfl,.inl rfl⟩,⟨⟨ab,_,rfl,.inl rfl⟩,trivial⟩⟩⟩⟩⟩ ?_
     generalize htd:t::(ts++[(((rs.map Ins.cells).length+1:Nat):Int)])=tl at htl htn
     have htd2:(t::ts)++[((r::rs).length:Int)]=tl:=by rw[<-htd];simp
     have hxx:fB k c.b.l[q].ins.l c.b.l[q].ins.l.length (o::os) (t::ts) (r::rs):=hme ▸ hx0
     generalize hrd:r::rs=rows at hold hrw1 htd2 hxx
     have hrl2:(rs.map Ins.cells).length+1=rows.length:=by rw[<-hrd];simp
     have hrl3:rs.length+1=rows.length:=by rw[<-hrd];simp
     have hshr:∀i∈rows,∀x∈bT i,ru tl x:=fun i hi x hx=>Wd hiv htl htn (hold i hi) hx
     refine DW.aO aC aD [2,5,10,11,13,14,15,92,93] [3000] 300 (fun x:{j:Nat // j≤rows.length}=>[(94,i64 x.1)]) (fun x=>[(3000,.arr 29 ((bm (d_ tl) rows x.1).map Ins.cells))]) [] (fun x=>rows.length+1 - x.1) (⟨0,zero_le _⟩) ?_
     (conv=>whnf)
     refine⟨?_,fun x=>?_⟩
     . conv => whnf
       (repeat' first|exact True.intro|apply And.intro|rfl|exact Yh hrd|exact jM|exact dZ (f:=ic) (fun _=>by rfl)|exact cX (f:=ic) (fun _=>by rfl))
     rcases x with⟨j,hj⟩
     have hlen2:=gL (d_ tl) rows (j:=j)
     (try dsimp only at hj)
     refine zk ?_
     repeat' ((first|(apply cb;(focus (exact (fh (l:=bm (d_ tl) rows j) (n:=(j:Int)) ez))))|refine zd func44 ?_|refine DV.new rfl (AL c.b.l cF h70) Af rfl ?_|(apply cb;(focus (exact (fh (l:=c.b.l) (n:=(q:Int)) ez))))|(refine zp ?_ ?_<;>first|exact⟨⟩|intro h)|(refine zh rfl (Yi ((bm (d_ tl) rows j)[((j:Int)).toNat]'ez) tl aa (Yg hshr aa (rP aa _))) ?_;rintro _ rfl))<;>refine zk ?_)
     . refine ⟨⟨j + 1, aa⟩, ?_, rfl, bG⟩
       (conv=>whnf)
       (repeat' first|exact True.intro|apply And.intro|rfl|exact jM|exact gQ (Yf (tl:=tl) (rows:=rows) (j:=j) aa)|exact dZ (f:=ic) (fun _=>by rfl)|exact cX (f:=ic) (fun _=>by rfl)|(refine cw ?_ ?_ ?_<;>(try dsimp only)<;>omega))
     . have hje : j = rows.length := aa
       have hg0:∀i∈(bm (d_ tl) rows j),i.op=16->∃i0∈c.b.l[q].ins.l,i0.op=16∧i0.p=i.p∧i0.n=i.n:=fun i hi h=>Wc hold (by rw[pZ hje] at hi;exact hi) h
       have hin0:∀i∈(bm (d_ tl) rows j),i.op=16->i.p=(q:Int)->0≤i.n∧i.n.toNat<tl.length:=fun i hi h h2=>by
        obtain⟨i0,h0,e1,e2,e3⟩:=hg0 i hi h;have:=hgto _ (getElem_mem hq) i0 h0 e1 aa;omega
       have hinb:∀(n:Nat) (hn:n<c.b.l.length),∀i∈c.b.l[n].ins.l,i.op=16->i.p=(q:Int)->0≤i.n∧i.n.toNat<tl.length:=fun n hn i hi h h2=>by
        have:=hgto _ (getElem_mem hn) i hi h h2;omega
       obtain⟨nb,hnb1,hnb2⟩:∃nb:Bd,nb.aj=kn∧nb.ins.l=(bm (d_ tl) rows j).map (bO q tl):=⟨⟨kn,⟨(bm (d_ tl) rows j).map (bO q tl),by rw[length_map,hlen2];omega⟩⟩,rfl,rfl⟩
       have hnb3:nb.cells=[i64 kn,.ak 29 (((bm (d_ tl) rows j).map (bO q tl)).map Ins.cells)]:=by rw[Bd.cells,hnb1,hnb2]
       have hlenall:∀(n:Nat) (h:n<c.b.l.length),c.b.l[n].ins.l.length≤10000:=fun n h=>hall _ (getElem_mem h)
       have hq':q<c.b.l.length:=hq;refine DW.ov 8347 _ [(2,i64 q),(10,_),(11,.ah),(14,.az 1000 0 ((os.map ic).length+1) 1),(15,.ak 1 (tl.map ic)),(23,.ptr 8344 0 0),(116,_),(117,_)] [(2,_),(1000,.arr 1 (ic o::os.map ic)),(3000,.arr 29 ((bm (d_ tl) rows j).map Ins.cells)),(8344,.arr 7 [[mo c.p.procs.l,i64 c.p.static,nj c.p.image.l,p_ c.p.files.l,.ak 1 (c.p.conds.l.map fun s=>[.str s.l]),aU c.p.dv.l,.az 8353 0 c.b.l.length 2]]),(8353,.arr 2 (eW q tl c.b.l kn 3000 ((rs.map Ins.cells).length+1) 0))] rfl ⟨⟨_,rfl,.inl rfl⟩,⟨⟨_,rfl,.inl rfl⟩,⟨⟨_,rfl,.inl rfl⟩,⟨⟨_,rfl,.inl rfl⟩,⟨⟨_,rfl,.inl rfl⟩,⟨⟨_,rfl,.inl rfl⟩,⟨⟨_,rfl,.inl rfl⟩,⟨⟨_,rfl,.inl rfl⟩,trivial⟩⟩⟩⟩⟩⟩⟩⟩ ⟨⟨ab,_,rfl,.inl rfl⟩,⟨⟨ab,_,rfl,.inl rfl⟩,⟨⟨ab,_,rfl,.inl rfl⟩,⟨⟨ab,_,rfl,.inl rfl⟩,⟨⟨ab,_,rfl,.inl (congrArg (an.arr 2) WQ.symm)⟩,trivial⟩⟩⟩⟩⟩ ?_
       refine DW.Ce aC aD [2, 10, 11, 14, 15, 23, 116] [8353, 3000] 20000 (fun x:{x:B3 // x.ok q c.b.l.length}=>match x.1 with
        | .pre n=>[(117,i64 n)]
        | .post n => [(117, i64 n)]) (fun x=>match x.1 with
        | .pre n=>[(8353,.arr 2 (eW q tl c.b.l kn 3000 ((rs.map Ins.cells).length+1) n)),(3000,.arr 29 ((bm (d_ tl) rows j).map Ins.cells))]
        | .post n=>[(8353,.arr 2 (dz q tl c.b.l nb n))]) [] (fun x=>c.b.l.length+1 - x.1.n) (⟨.pre 0,zero_le _⟩) ?_
       (conv=>whnf)
       refine⟨?_,fun x=>?_⟩
       . conv => whnf
         (repeat' first|exact True.intro|apply And.intro|rfl|exact oQ (s:=2) rfl aB|exact sE (s:=2) aB|exact jM (s:=29)|exact gQ (s:=29) rfl|exact dZ (f:=ic) (fun _=>by rfl)|exact cX (f:=ic) (fun _=>by rfl))
       rcases x with⟨⟨n⟩|⟨n⟩,hx⟩
       . have hx0 : n ≤ q := hx
         have hnl:n<c.b.l.length:=aa
         by_cases hnq:n=q
         . have hx1 : n = q := hnq
           refine zk ?_
           repeat' ((first|(apply cb;(focus (exact ik)))|(refine zp ?_ ?_<;>first|exact⟨⟩|intro h))<;>refine zk ?_)
           refine DW.aO aC aD [2,10,11,14,15,23,24,116,117,140,141] [3000] 500 (fun y:{w:Nat // w≤(bm (d_ tl) rows j).length}=>[(142,i64 y.1)]) (fun y=>[(3000,.arr 29 ((bm (bO q tl) (bm (d_ tl) rows j) y.1).map Ins.cells))]) [] (fun y=>(bm (d_ tl) rows j).length+1 - y.1) (⟨0,zero_le _⟩) ?_
           (conv=>whnf)
           refine⟨?_,fun y=>?_⟩
           . conv => whnf
             (repeat' first|exact True.intro|apply And.intro|rfl|exact gQ (s:=29) (by rw[pY])|exact jM (s:=29)|exact oQ (s:=2) rfl aB|exact sE (s:=2) aB|exact dZ (sz:=1) (f:=ic) (fun _=>by rfl)|exact cX (sz:=1) (f:=ic) (fun _=>by rfl))
           rcases y with⟨y,hy⟩
           have hyl:(bm (bO q tl) (bm (d_ tl) rows j) y).length=(bm (d_ tl) rows j).length:=gL (bO q tl) (bm (d_ tl) rows j);have hpat:∀h:y<(bm (d_ tl) rows j).length,((bm (bO q tl) (bm (d_ tl) rows j) y)[((y:Int)).toNat]'jl).op=16->((bm (bO q tl) (bm (d_ tl) rows j) y)[((y:Int)).toNat]'jl).p=(q:Int)->0≤((bm (bO q tl) (bm (d_ tl) rows j) y)[((y:Int)).toNat]'jl).n∧((bm (bO q tl) (bm (d_ tl) rows j) y)[((y:Int)).toNat]'jl).n.toNat<tl.length:=fun h=>by
            rw[sC h];exact hin0 _ (getElem_mem h)
           (try dsimp only at hy)
           refine zk ?_
           repeat' ((first|(refine Rq.mk zA ?_)|(refine zb ?_ ?_<;>(first|exact⟨⟩|intro h)<;>try (exfalso;(first|omega|(have hpa:=hpat aa;omega))))|(refine ay.mk _ (cU o9) ?_)|(apply cb;(focus (exact (by first|exact fh (l:=bm (bO q tl) (bm (d_ tl) rows j) y) (n:=(y:Int)) aa|exact fh (l:=tl) (f:=ic) (by have:=hpat aa;omega)|exact sB ag tz|exact sF ez hq)))))<;>refine zk ?_)
           all_goals first
            | (refine ⟨⟨y + 1, aa⟩, ?_, rfl, bG⟩
               (conv=>whnf)
               (repeat' first|exact True.intro|apply And.intro|rfl|exact gQ (s:=29) (xR (q:=q) (tl:=tl) (L:=(bm (d_ tl) rows j)) (j:=y) aa aa (congrArg Ins.cells (xQ aa aa).symm))|exact gQ (s:=29) (xS (q:=q) (tl:=tl) (L:=(bm (d_ tl) rows j)) (j:=y) aa aa aa)|exact jM (s:=29)|exact oQ (s:=2) rfl aB|exact sE (s:=2) aB|exact dZ (sz:=1) (f:=ic) (fun _=>by rfl)|exact cX (sz:=1) (f:=ic) (fun _=>by rfl)|(refine cw ?_ ?_ ?_<;>(try dsimp only)<;>omega)))
            | (refine ⟨⟨.post (n + 1), tr⟩, _, iR.z 3000 _ [(2, _), (10, _), (11, _), (14, _), (15, _), (23, _), (116, _), (117, _)] [(2, _), (1000, _), (8344, _), (8353, .arr 2 (dz q tl c.b.l nb (n + 1)))] rfl ⟨⟨_, rfl, .inl rfl⟩, ⟨⟨_, rfl, .inl rfl⟩, ⟨⟨_, rfl, .inl rfl⟩, ⟨⟨_, rfl, .inl rfl⟩, ⟨⟨_, rfl, .inl rfl⟩, ⟨⟨_, rfl, .inl rfl⟩, ⟨⟨_, rfl, .inl rfl⟩, ⟨⟨_, rfl, .inl rfl⟩, trivial⟩⟩⟩⟩⟩⟩⟩⟩ ⟨⟨ab, _, rfl, .inl rfl⟩, ⟨⟨ab, _, rfl, .inl rfl⟩, ⟨⟨ab, _, rfl, .inl rfl⟩, ⟨⟨ab, _, rfl, Sb hx1 hq (w6 (L := (bm (d_ tl) rows j).map (bO q tl)) (by rw [pZ (by omega : y = (bm (d_ tl) rows j).length)]) (by simp only [length_map, gL] <;> omega)) hnb3⟩, trivial⟩⟩⟩⟩, ?_, rfl, (show _ - _ < _ - _ from (by simp only [B3.n]; omega))⟩
               (conv=>whnf)
               (exact qwU))
         . by_cases hins : c.b.l[n].ins.l = []
           . skip
             refine zk ?_
             repeat' ((first|(refine zh rfl (gC _ hins) ?_;rintro _ rfl)|(apply cb;(focus (exact ik)))|(refine zp ?_ ?_<;>first|exact⟨⟩|intro h))<;>refine zk ?_)
             refine DW.aO aC aD [2,10,11,14,15,23,116,117,141] [8353] 500 (fun y:Nat=>[(142,i64 (0:Int))]) (fun _=>[(8353,.arr 2 (eW q tl c.b.l kn 3000 ((rs.map Ins.cells).length+1) (n+1)))]) [] (fun y=>y) (0) ?_
             (conv=>whnf)
             refine⟨?_,fun y=>?_⟩
             . conv => whnf
               (repeat' first|exact True.intro|apply And.intro|rfl|exact oQ (s:=2) (by rw[<-CS hnl hnq (by rw[CM hins])];congr 1;simp) aB|exact sE (s:=2) aB|exact gQ (s:=29) rfl|exact jM (s:=29)|exact dZ (sz:=1) (f:=ic) (fun _=>by rfl)|exact cX (sz:=1) (f:=ic) (fun _=>by rfl))
             refine zg ?_
             repeat' ((first|(refine zp ?_ ?_<;>first|exact⟨⟩|intro h))<;>refine zg ?_)
             all_goals first
              | (refine ⟨⟨.pre (n + 1), (show n + 1 ≤ q by omega)⟩, _, iR.r, ?_, rfl, (show _ - _ < _ - _ from (by simp only [B3.n]; omega))⟩
                 (conv=>whnf)
                 (repeat' first|exact True.intro|apply And.intro|rfl|exact oQ (s:=2) rfl aB|exact sE (s:=2) aB|exact gQ (s:=29) rfl|exact jM (s:=29)|exact dZ (sz:=1) (f:=ic) (fun _=>by rfl)|exact cX (sz:=1) (f:=ic) (fun _=>by rfl)|(refine cw ?_ ?_ ?_<;>(try dsimp only)<;>omega)))
           . skip
             refine zk ?_
             repeat' ((first|(refine DV.new rfl (l6 _ hins mH) me rfl ?_)|(apply cb;(focus (exact ik)))|(refine zp ?_ ?_<;>first|exact⟨⟩|intro h))<;>refine zk ?_)
             refine DW.aO aC aD [2,10,11,14,15,23,24,116,117,140,141] [8353,28384] 500 (fun y:{w:Nat // w≤c.b.l[n].ins.l.length}=>[(142,i64 y.1)]) (fun y=>[(8353,.arr 2 ((eW q tl c.b.l kn 3000 ((rs.map Ins.cells).length+1) n).set n (jb c.b.l[n].aj 28384 c.b.l[n].ins.l.length))),(28384,.arr 29 ((bm (bO q tl) c.b.l[n].ins.l y.1).map Ins.cells))]) [] (fun y=>c.b.l[n].ins.l.length+1 - y.1) (⟨0,zero_le _⟩) ?_
             (conv=>whnf)
             refine⟨?_,fun y=>?_⟩
             . conv => whnf
               (repeat' first|exact True.intro|apply And.intro|rfl|exact gQ (s:=29) (by rw[pY])|exact jM (s:=29)|exact gQ (s:=29) rfl|exact JB (s:=2) (by first|rfl|(congr 1;simp)) aB aB|exact JA (s:=2) aB aB|exact dZ (sz:=1) (f:=ic) (fun _=>by rfl)|exact cX (sz:=1) (f:=ic) (fun _=>by rfl))
             rcases y with⟨y,hy⟩
             have hln:=hlenall n hnl;have hyl:(bm (bO q tl) c.b.l[n].ins.l y).length=c.b.l[n].ins.l.length:=gL (bO q tl) c.b.l[n].ins.l;have hpat:∀h:y<c.b.l[n].ins.l.length,((bm (bO q tl) c.b.l[n].ins.l y)[((y:Int)).toNat]'jl).op=16->((bm (bO q tl) c.b.l[n].ins.l y)[((y:Int)).toNat]'jl).p=(q:Int)->0≤((bm (bO q tl) c.b.l[n].ins.l y)[((y:Int)).toNat]'jl).n∧((bm (bO q tl) c.b.l[n].ins.l y)[((y:Int)).toNat]'jl).n.toNat<tl.length:=fun h=>by
              rw[sC h];exact hinb n hnl _ (getElem_mem h)
             (try dsimp only at hy)
             refine zk ?_
             repeat' ((first|(refine Rq.mk zA ?_)|(refine zb ?_ ?_<;>(first|exact⟨⟩|intro h)<;>try (exfalso;(first|omega|(have hpa:=hpat aa;omega))))|(refine ay.mk _ (cU o9) ?_)|(apply cb;(focus (exact tf))))<;>refine zk ?_)
             all_goals first
              | (refine ⟨⟨y + 1, aa⟩, ?_, rfl, bG⟩
                 (conv=>whnf)
                 (repeat' first|exact True.intro|apply And.intro|rfl|exact gQ (s:=29) (xR (q:=q) (tl:=tl) (L:=c.b.l[n].ins.l) (j:=y) aa aa (congrArg Ins.cells (xQ aa aa).symm))|exact gQ (s:=29) (xS (q:=q) (tl:=tl) (L:=c.b.l[n].ins.l) (j:=y) aa aa aa)|exact jM (s:=29)|exact gQ (s:=29) rfl|exact JB (s:=2) (by first|rfl|(congr 1;simp)) aB aB|exact JA (s:=2) aB aB|exact dZ (sz:=1) (f:=ic) (fun _=>by rfl)|exact cX (sz:=1) (f:=ic) (fun _=>by rfl)|(refine cw ?_ ?_ ?_<;>(try dsimp only)<;>omega)))
              | (refine ⟨⟨.pre (n + 1), (show n + 1 ≤ q by omega)⟩, _, iR.z 28384 _ [(2, _), (10, _), (11, _), (14, _), (15, _), (23, _), (116, _), (117, _)] [(2, _), (1000, _), (8344, _), (8353, .arr 2 (eW q tl c.b.l kn 3000 ((rs.map Ins.cells).length + 1) (n + 1))), (3000, _)] rfl ⟨⟨_, rfl, .inl rfl⟩, ⟨⟨_, rfl, .inl rfl⟩, ⟨⟨_, rfl, .inl rfl⟩, ⟨⟨_, rfl, .inl rfl⟩, ⟨⟨_, rfl, .inl rfl⟩, ⟨⟨_, rfl, .inl rfl⟩, ⟨⟨_, rfl, .inl rfl⟩, ⟨⟨_, rfl, .inl rfl⟩, trivial⟩⟩⟩⟩⟩⟩⟩⟩ ⟨⟨ab, _, rfl, .inl rfl⟩, ⟨⟨ab, _, rfl, .inl rfl⟩, ⟨⟨ab, _, rfl, .inl rfl⟩, ⟨⟨ab, _, rfl, Sc hnl hnq rfl (w6 (L := c.b.l[n].ins.l.map (bO q tl)) (by rw [pZ (by omega : y = c.b.l[n].ins.l.length)]) (by simp only [length_map, gL] <;> omega))⟩, ⟨⟨ab, _, rfl, .inl rfl⟩, trivial⟩⟩⟩⟩⟩, ?_, rfl, (show _ - _ < _ - _ from (by simp only [B3.n]; omega))⟩
                 (conv=>whnf)
                 (repeat' first|exact True.intro|apply And.intro|rfl|exact oQ (s:=2) rfl aB|exact sE (s:=2) aB|exact gQ (s:=29) rfl|exact jM (s:=29)|exact dZ (sz:=1) (f:=ic) (fun _=>by rfl)|exact cX (sz:=1) (f:=ic) (fun _=>by rfl)|(refine cw ?_ ?_ ?_<;>(try dsimp only)<;>omega)))
       . have hx0 : q < n ∧ n ≤ c.b.l.length := hx
         have hnq:n≠q:=aa
         by_cases hnl:n<c.b.l.length
         . by_cases hins : c.b.l[n].ins.l = []
           . skip
             refine zk ?_
             repeat' ((first|(refine zh rfl (gC _ hins) ?_;rintro _ rfl)|(apply cb;(focus (exact ik)))|(refine zp ?_ ?_<;>first|exact⟨⟩|intro h))<;>refine zk ?_)
             refine DW.aO aC aD [2,10,11,14,15,23,116,117,141] [8353] 500 (fun y:Nat=>[(142,i64 (0:Int))]) (fun _=>[(8353,.arr 2 (dz q tl c.b.l nb (n+1)))]) [] (fun y=>y) (0) ?_
             (conv=>whnf)
             refine⟨?_,fun y=>?_⟩
             . conv => whnf
               (exact qwR)
             refine zg ?_
             repeat' ((first|(refine zp ?_ ?_<;>first|exact⟨⟩|intro h))<;>refine zg ?_)
             all_goals first
              | (refine ⟨⟨.post (n + 1), tr⟩, _, iR.r, ?_, rfl, (show _ - _ < _ - _ from (by simp only [B3.n]; omega))⟩
                 (conv=>whnf)
                 (exact qwR))
           . skip
             refine zk ?_
             repeat' ((first|(refine DV.new rfl (l6 _ hins mH) me rfl ?_)|(apply cb;(focus (exact ik)))|(refine zp ?_ ?_<;>first|exact⟨⟩|intro h))<;>refine zk ?_)
             refine DW.aO aC aD [2,10,11,14,15,23,24,116,117,140,141] [8353,28384] 500 (fun y:{w:Nat // w≤c.b.l[n].ins.l.length}=>[(142,i64 y.1)]) (fun y=>[(8353,.arr 2 ((dz q tl c.b.l nb n).set n (jb c.b.l[n].aj 28384 c.b.l[n].ins.l.length))),(28384,.arr 29 ((bm (bO q tl) c.b.l[n].ins.l y.1).map Ins.cells))]) [] (fun y=>c.b.l[n].ins.l.length+1 - y.1) (⟨0,zero_le _⟩) ?_
             (conv=>whnf)
             refine⟨?_,fun y=>?_⟩
             . conv => whnf
               (repeat' first|exact True.intro|apply And.intro|rfl|exact gQ (s:=29) (by rw[pY])|exact jM (s:=29)|exact x_ (s:=2) (by first|rfl|(congr 1;simp)) aB|exact xZ (s:=2) aB|exact dZ (sz:=1) (f:=ic) (fun _=>by rfl)|exact cX (sz:=1) (f:=ic) (fun _=>by rfl))
             rcases y with⟨y,hy⟩
             have hln:=hlenall n hnl;have hyl:(bm (bO q tl) c.b.l[n].ins.l y).length=c.b.l[n].ins.l.length:=gL (bO q tl) c.b.l[n].ins.l;have hpat:∀h:y<c.b.l[n].ins.l.length,((bm (bO q tl) c.b.l[n].ins.l y)[((y:Int)).toNat]'jl).op=16->((bm (bO q tl) c.b.l[n].ins.l y)[((y:Int)).toNat]'jl).p=(q:Int)->0≤((bm (bO q tl) c.b.l[n].ins.l y)[((y:Int)).toNat]'jl).n∧((bm (bO q tl) c.b.l[n].ins.l y)[((y:Int)).toNat]'jl).n.toNat<tl.length:=fun h=>by
              rw[sC h];exact hinb n hnl _ (getElem_mem h)
             (try dsimp only at hy)
             refine zk ?_
             repeat' ((first|(refine Rq.mk zA ?_)|(refine zb ?_ ?_<;>(first|exact⟨⟩|intro h)<;>try (exfalso;(first|omega|(have hpa:=hpat aa;omega))))|(refine ay.mk _ (cU o9) ?_)|(apply cb;(focus (exact tf))))<;>refine zk ?_)
             all_goals first
              | (refine ⟨⟨y + 1, aa⟩, ?_, rfl, bG⟩
                 (conv=>whnf)
                 (repeat' first|exact True.intro|apply And.intro|rfl|exact gQ (s:=29) (xR (q:=q) (tl:=tl) (L:=c.b.l[n].ins.l) (j:=y) aa aa (congrArg Ins.cells (xQ aa aa).symm))|exact gQ (s:=29) (xS (q:=q) (tl:=tl) (L:=c.b.l[n].ins.l) (j:=y) aa aa aa)|exact jM (s:=29)|exact x_ (s:=2) (by first|rfl|(congr 1;simp)) aB|exact xZ (s:=2) aB|exact dZ (sz:=1) (f:=ic) (fun _=>by rfl)|exact cX (sz:=1) (f:=ic) (fun _=>by rfl)|(refine cw ?_ ?_ ?_<;>(try dsimp only)<;>omega)))
              | (refine ⟨⟨.post (n + 1), tr⟩, _, iR.z 28384 _ [(2, _), (10, _), (11, _), (14, _), (15, _), (23, _), (116, _), (117, _)] [(2, _), (1000, _), (8344, _), (8353, .arr 2 (dz q tl c.b.l nb (n + 1)))] rfl ⟨⟨_, rfl, .inl rfl⟩, ⟨⟨_, rfl, .inl rfl⟩, ⟨⟨_, rfl, .inl rfl⟩, ⟨⟨_, rfl, .inl rfl⟩, ⟨⟨_, rfl, .inl rfl⟩, ⟨⟨_, rfl, .inl rfl⟩, ⟨⟨_, rfl, .inl rfl⟩, ⟨⟨_, rfl, .inl rfl⟩, trivial⟩⟩⟩⟩⟩⟩⟩⟩ ⟨⟨ab, _, rfl, .inl rfl⟩, ⟨⟨ab, _, rfl, .inl rfl⟩, ⟨⟨ab, _, rfl, .inl rfl⟩, ⟨⟨ab, _, rfl, G1 hnl hnq rfl (w6 (L := c.b.l[n].ins.l.map (bO q tl)) (by rw [pZ (by omega : y = c.b.l[n].ins.l.length)]) (by simp only [length_map, gL] <;> omega))⟩, trivial⟩⟩⟩⟩, ?_, rfl, (show _ - _ < _ - _ from (by simp only [B3.n]; omega))⟩
                 (conv=>whnf)
                 (exact qwU))
         . skip
           refine zk ?_
           repeat' ((first|(refine zp ?_ ?_<;>first|exact⟨⟩|intro h))<;>refine zk ?_)
           have hnn:n=c.b.l.length:=aa
           generalize hg2:snap _ 20 _=rr
           obtain rfl:=hg2.symm.trans (qT (n:=19) (nR (n:=18) (aJ rfl (aJ rfl (aJ rfl (aJ rfl (aJ rfl (aJ rfl (aJ (gu (f:=Bd.cells) (l:=(kk c q tl nb).b.l) (n:=17) (fun _=>rfl) rfl (Jz hnn) (by simp[kk])) rfl)))))))) (gu (f:=ic) (l:=o::os) (n:=18) (fun _=>rfl) rfl rfl ag))
           exact⟨kk c q tl nb,_,o::os,rfl,Told.r,mR.mk' hxx htd2 (pZ hje) hnb1 hnb2 hkw⟩
theorem YW (c:Cd)(k:Int)(q n:Nat)(h:tR c k q n) :
 af 46 [c.av,i64 k,i64 q,aU (bC n),.bool true] (fun ae=>∃(out:Cd) (v:AV) (of:List Int),ae = .ret (.ao [out.av,v])∧Told v (aU of)∧mR c k q (c.b.l[q]'h.hq).ins.l (c.b.l[q]'h.hq).aj out of):=by
 rcases eq_zero_or_pos (c.b.l[q]'h.hq).ins.l.length with h0|h0
 . exact YU c k q n h fun _=>h0
 . exact YV c k q n h fun _=>h0
theorem YT (c:Cd)(k:Int)(q n:Nat)(h:tR c k q n) :
 af 46 [c.av,i64 k,i64 q,aU (bC n),.bool true] (fun ae=>∃(out:Cd) (of:List Int),ae = .ret (.ao [out.av,aU of])∧mR c k q (c.b.l[q]'h.hq).ins.l (c.b.l[q]'h.hq).aj out of):=
 (YW c k q n h).told (by
  rintro _ ⟨out,v,of,rfl,ht,h1⟩
  exact⟨_,.ao [out.av,aU of],rfl,Told.ao ⟨.r,ht,trivial⟩,out,of,rfl,h1⟩)
end Go.Ago
