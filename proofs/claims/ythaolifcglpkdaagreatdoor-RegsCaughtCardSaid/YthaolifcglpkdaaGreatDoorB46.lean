/-
  Part B46: lemmas, each with its own conditions.
-/
import Derived.Test.YthaolifcglpkdaaGreatDoorB44
set_option maxRecDepth 100000
set_option maxHeartbeats 0
set_option linter.all false
namespace Go.Ago
open Go.Proofs List Nat Tryz
attribute [local irreducible] bA bw aV bp bG wr aZ bF comp DC DP DW DV
attribute [local irreducible] du ct aL cE dE dm dR dL bU dw dG bK bn bB eh aR a_
attribute [local irreducible] eW dB bq bT kk
theorem qwE {P:Prop}(h:P:=by first|(((repeat' first|exact True.intro|apply And.intro|rfl|exact zbc (fun v=>an.arr 2 [[i64 kn,v]]) (dX aB aB tu aB)|exact dX aB aB tu aB|exact e_ aB (gM (f:=ic) (fun _=>by rfl) aB ag)|exact e_ aB (S5 (f:=Ins.cells) (fun _=>by rfl) ag)|exact eg (f:=ic) (fun _=>by rfl)|exact c_ (f:=ic) (fun _=>by rfl)|exact eg (f:=Ins.cells) (fun _=>by rfl)|exact c_ (f:=Ins.cells) (fun _=>by rfl)|(refine cw ?_ ?_ ?_<;>(try dsimp only)<;>omega)));done)|fail):P:=h
theorem qwR {P:Prop}(h:P:=by first|(((repeat' first|exact True.intro|apply And.intro|rfl|exact qz (s:=2) rfl|exact qz (s:=2) (by rw[<-JM hnl hnq (by rw[C3 hins])];congr 1;simp)|exact yh (s:=2)|exact eg (sz:=1) (f:=ic) (fun _=>by rfl)|exact c_ (sz:=1) (f:=ic) (fun _=>by rfl)|(refine cw ?_ ?_ ?_<;>(try dsimp only)<;>omega)));done)|fail):P:=h
theorem qwU {P:Prop}(h:P:=by first|(((repeat' first|exact True.intro|apply And.intro|rfl|exact qz (s:=2) rfl|exact yh (s:=2)|exact eg (sz:=1) (f:=ic) (fun _=>by rfl)|exact c_ (sz:=1) (f:=ic) (fun _=>by rfl)|(refine cw ?_ ?_ ?_<;>(try dsimp only)<;>omega)));done)|fail):P:=h
theorem qwD {P:Prop}(h:P:=by first|(((conv=>whnf);(exact qwE));done)|fail):P:=h
theorem Zr (c:Cd)(k:Int)(q n:Nat)(h:tU c k q n)(h0:∀hq:q<c.b.l.length,0<c.b.l[q].ins.l.length) :
 af 46 [c.av,i64 k,i64 q,aT (a_ n),.bool true] (fun ae=>∃(out:Cd) (v:AV) (of:List Int),ae = .ret (.ao [out.av,v])∧Told v (aT of)∧mQ c k q (c.b.l[q]'h.hq).ins.l (c.b.l[q]'h.hq).ah out of):=by
 obtain⟨hq,h70,hk,hn,hrg,hlen,hiv,hlst,hgto,hall,hmv⟩:=h;have hz:=h0 hq;have hcl:=c.b.h;have cF:c.b.l≠[]:=fun e=>by rw[e] at hq;simp at hq
 refine zw func46 ?_;refine zk ?_
 repeat' ((first|refine az.mk _ (bO (l:=c.b.l) (i:=q) hq) ?_)<;>refine zk ?_)
 have hkw:wr .i64 (k+(c.b.l[q]).ah)=k+(c.b.l[q]).ah:=aE aa aa
 generalize hkn:wr .i64 (k+(c.b.l[q]).ah)=kn at hkw
 refine DW.ot 1 (.arr 1 [[aT (a_ n)]]) [(1,_),(2,_),(4,_),(5,_),(10,_),(11,_),(12,(.fn (.func 89) [] [.bm [aT (a_ n)]])),(13,_),(42,_),(43,_),(44,_),(14,_),(15,_)] [(0,_),(2,_),(15,_)] rfl ⟨⟨_,rfl,.inl rfl⟩,⟨⟨_,rfl,.inl rfl⟩,⟨⟨_,rfl,.inl rfl⟩,⟨⟨_,rfl,.inl rfl⟩,⟨⟨_,rfl,.inl rfl⟩,⟨⟨_,rfl,.inl rfl⟩,⟨⟨_,rfl,.inr rfl⟩,⟨⟨_,rfl,.inl rfl⟩,⟨⟨_,rfl,.inl rfl⟩,⟨⟨_,rfl,.inl rfl⟩,⟨⟨_,rfl,.inl rfl⟩,⟨⟨_,rfl,.inl rfl⟩,⟨⟨_,rfl,.inl rfl⟩,trivial⟩⟩⟩⟩⟩⟩⟩⟩⟩⟩⟩⟩⟩ ⟨⟨ab,_,rfl,.inl rfl⟩,⟨⟨ab,_,rfl,.inl rfl⟩,⟨⟨ab,_,rfl,.inl rfl⟩,trivial⟩⟩⟩ ?_;refine DW.aO aC aD [1, 2, 4, 5, 10, 11, 12, 13, 42, 43] [15] 8000 (fun x:{x:n4 // x.ok k c.b.l[q].ins.l}=>match x.1 with
  | .z=>[(44,i64 ((0:Nat):Int)),(14,.ai),(15,.ai)]
  | .s m o os t ts r rs => [(44, i64 m), (14, .ay 1000 0 ((os.map ic).length + 1) 1), (15, .ay 2000 0 ((ts.map ic).length + 1) 1)]) (fun x=>match x.1 with
  | .z=>[(15,.arr 2 [[i64 kn,.ai]])]
  | .s m o os t ts r rs=>[(15,.arr 2 [[i64 kn,.ay 3000 0 ((rs.map Ins.cells).length+1) 29]]),(1000,.arr 1 (ic o::os.map ic)),(2000,.arr 1 (ic t::ts.map ic)),(3000,.arr 29 (r.cells::rs.map Ins.cells))]) [(1000,.slot 14),(2000,.slot 15),(3000,.cell 15 1)] (fun x=>c.b.l[q].ins.l.length+1 - x.1.m) (⟨.z,trivial⟩) ?_
 refine zl fun x=>?_
 rcases x with⟨_|⟨m,o,os,t,ts,r,rs⟩,hx⟩
 . have hx0 := fE.start k c.b.l[q].ins.l
   have hmb:0≤c.b.l[q].ins.l.length:=zbq _;refine zk ?_
   repeat' ((first|refine zf ?_|refine az.mk _ (bO (l:=c.b.l[q].ins.l) (i:=0) aa) ?_|(refine zp ?_ ?_<;>first|exact⟨⟩|intro h)|(refine DC.pure rfl (Ay (c.b.l[q].ins.l[0]'aa) k n ⟨hk.1,aa⟩ aa (hlst _ (za9 _)) (hiv _ (za9 _)).hi (hmv _ (za9 _))) ?_;rintro _ ⟨out,at_,rfl,hb⟩;obtain⟨y0,ys,rfl⟩:=Aw hb))<;>refine zk ?_)
   . have hlt : 0 < c.b.l[q].ins.l.length := aa
     have hob:=Ax hb;simp only[zbd] at hob;refine DW.aO aC aD [1,2,4,5,10,11,12,13,15,16,17,18,19,42,43,44,45,46,47,48,49,50,51,52,53,54,55,56,57,58,59,60,61,62,63,64] [] 6000 (fun y:{y:Nat×List Int // y.2=([]:List Int)++(dW k 0 (c.b.l[q].ins.l[0]'aa)).take y.1∧y.1≤ys.length+1}=>[(65,i64 y.1.1),(14,fu 9000 1 (y.1.2.map ic))]) (fun y=>fq 9000 1 (y.1.2.map ic)) [(9000,.slot 14)] (fun y=>ys.length+2 - y.1.1) (⟨(0,[]),rfl,zbq _⟩) ?_
     (conv=>whnf)
     refine⟨?_,fun y=>?_⟩
     . conv => whnf
       (exact qwE)
     rcases y with⟨⟨j,_|⟨o2,os2⟩⟩,hy1,hy2⟩
     all_goals
      have hyl:=Ji hb hy1 hy2;dsimp only at hy1 hy2 hyl;simp only[zbd,zbp] at hyl
     . skip
       refine zg ?_
       repeat' ((first|refine zf ?_|(refine zp ?_ ?_<;>first|exact⟨⟩|intro h))<;>refine zg ?_)
       . (refine⟨⟨(j+1,[((0:Nat):Int)]),CU hb eE hy1 h,bH⟩,qwD,rfl,bH⟩)
       . (refine⟨⟨(j+1,[(-1:Int)]),CR hb eE hy1 h,bH⟩,qwD,rfl,bH⟩)
     . skip
       refine zg ?_
       repeat' ((first|refine Rq.mk (sQ (f:=Ins.cells) (fun _=>rfl)) ?_|(refine Rq.mk (rq 304 rfl gX ab) ?_)|refine zf ?_|(refine Rq.mk (eP 8 8000 ag rfl rfl gX ab) ?_)|(refine zp ?_ ?_<;>first|exact⟨⟩|intro h))<;>refine zg ?_)
       . (refine⟨⟨(j+1,o2::(os2++[((0:Nat):Int)])),CU hb eE hy1 h,bH⟩,qwD,rfl,bH⟩)
       . (refine⟨⟨(j+1,o2::(os2++[(-1:Int)])),CR hb eE hy1 h,bH⟩,qwD,rfl,bH⟩)
       . (refine⟨⟨.s (0+1) o2 os2 0 [] y0 ys,fE.next hx0 hlt hb hy1 (by simp only[zbd];omega) rfl⟩,qwD,rfl,(by(show _ - _<_ - _);simp only[n4.m];omega)⟩)
 . have hx0 : fE k c.b.l[q].ins.l m (o :: os) (t :: ts) (r :: rs) := hx
   have hmb:=hx0.ml;have hofl:=hx0.gU;have htol:=hx0.tol;have hrl:=hx0.rl;simp only[zbd] at hofl htol hrl;refine zk ?_
   repeat' ((first|refine zf ?_|(refine Rq.mk (eP 8 8000 ag rfl rfl gX ab) ?_)|refine az.mk _ (bO (l:=c.b.l[q].ins.l) (i:=m) aa) ?_|(refine zp ?_ ?_<;>first|exact⟨⟩|intro h)|(refine DC.pure rfl (Ay (c.b.l[q].ins.l[m]'aa) k n ⟨hk.1,aa⟩ aa (hlst _ (za9 _)) (hiv _ (za9 _)).hi (hmv _ (za9 _))) ?_;rintro _ ⟨out,at_,rfl,hb⟩;obtain⟨y0,ys,rfl⟩:=Aw hb))<;>refine zk ?_)
   . have hlt : m < c.b.l[q].ins.l.length := aa
     have hob:=Ax hb;simp only[zbd] at hob;refine DW.aO aC aD [1,2,4,5,10,11,12,13,15,16,17,18,19,42,43,44,45,46,47,48,49,50,51,52,53,54,55,56,57,58,59,60,61,62,63,64] [1000,8039] 6000 (fun y:{y:Nat×List Int // y.2=(o::os)++(dW k m (c.b.l[q].ins.l[m]'aa)).take y.1∧y.1≤ys.length+1}=>[(65,i64 y.1.1),(14,fu 9000 1 (y.1.2.map ic))]) (fun y=>(8039,.arr 1 (ic t::(ts++[(((rs.map Ins.cells).length+1:Nat):Int)]).map ic))::fq 9000 1 (y.1.2.map ic)) [(9000,.slot 14)] (fun y=>ys.length+2 - y.1.1) (⟨(0,o::os),(zcX _).symm,zbq _⟩) ?_
     (conv=>whnf)
     refine⟨?_,fun y=>?_⟩
     . conv => whnf
       (exact qwE)
     rcases y with⟨⟨j,_|⟨o2,os2⟩⟩,hy1,hy2⟩
     all_goals
      have hyl:=Ji hb hy1 hy2;dsimp only at hy1 hy2 hyl;simp only[zbd,zbp] at hyl
     . exfalso;omega
     . skip
       refine zg ?_
       repeat' ((first|refine Rq.mk (sQ (f:=Ins.cells) (fun _=>rfl)) ?_|refine zf ?_|(refine Rq.mk (eP 8 8000 ag rfl rfl gX ab) ?_)|(refine Rq.mk (rv 304 ag rfl gX ab) ?_)|(refine zp ?_ ?_<;>first|exact⟨⟩|intro h))<;>refine zg ?_)
       . (refine⟨⟨(j+1,o2::(os2++[((m:Nat):Int)])),CU hb eE hy1 h,bH⟩,qwD,rfl,bH⟩)
       . (refine⟨⟨(j+1,o2::(os2++[(-1:Int)])),CR hb eE hy1 h,bH⟩,qwD,rfl,bH⟩)
       . (refine⟨⟨.s (m+1) o2 os2 t (ts++[(((rs.map Ins.cells).length+1:Nat):Int)]) r (rs++y0::ys),fE.next hx0 hlt hb hy1 (by simp only[zbd];omega) ag⟩,qwD,rfl,(by(show _ - _<_ - _);simp only[n4.m];omega)⟩)
   . have hme : m = c.b.l[q].ins.l.length := aa
     have htl:∀x∈t::(ts++[(((rs.map Ins.cells).length+1:Nat):Int)]),0≤x:=fun x hx=>by
      rcases zbB.1 hx with rfl|hx
      . exact hx0.Nx _ zck
      . rcases zbL.1 hx with hx | hx
        . exact hx0.Nx _ (zbO _ hx)
        . rw[zbU.1 hx];exact zdd _
     have htn:(t::(ts++[(((rs.map Ins.cells).length+1:Nat):Int)])).length=c.b.l[q].ins.l.length+1:=by simp only[zbd,zbk,zbp];omega
     have hold:=hx0.old;have hrw1:(r::rs).length≤4 * c.b.l[q].ins.l.length:=by rw[<-hme];exact hx0.rl
     refine DW.ot 8033 _ [(2,_),(5,_),(10,_),(11,_),(13,_),(14,_),(15,.ak 1 ((t::(ts++[(((rs.map Ins.cells).length+1:Nat):Int)])).map ic)),(92,_),(93,_),(94,_)] [(0,_),(2,_),(15,_),(1000,_),(3000,_)] rfl ⟨⟨_,rfl,.inl rfl⟩,⟨⟨_,rfl,.inl rfl⟩,⟨⟨_,rfl,.inl rfl⟩,⟨⟨_,rfl,.inl rfl⟩,⟨⟨_,rfl,.inl rfl⟩,⟨⟨_,rfl,.inl rfl⟩,⟨⟨_,rfl,.inr (SH (S6 aB ag) (On (f:=ic) aB ag) rfl)⟩,⟨⟨_,rfl,.inl rfl⟩,⟨⟨_,rfl,.inl rfl⟩,⟨⟨_,rfl,.inl rfl⟩,trivial⟩⟩⟩⟩⟩⟩⟩⟩⟩⟩ ⟨⟨ab,_,rfl,.inl rfl⟩,⟨⟨ab,_,rfl,.inl rfl⟩,⟨⟨ab,_,rfl,.inl rfl⟩,⟨⟨ab,_,rfl,.inl rfl⟩,⟨⟨ab,_,rfl,.inl rfl⟩,trivial⟩⟩⟩⟩⟩ ?_
     generalize htd:t::(ts++[(((rs.map Ins.cells).length+1:Nat):Int)])=tl at htl htn
     have htd2:(t::ts)++[((r::rs).length:Int)]=tl:=by rw[<-htd];simp
     have hxx:fE k c.b.l[q].ins.l c.b.l[q].ins.l.length (o::os) (t::ts) (r::rs):=hme ▸ hx0
     generalize hrd:r::rs=rows at hold hrw1 htd2 hxx
     have hrl2:(rs.map Ins.cells).length+1=rows.length:=by rw[<-hrd];simp
     have hrl3:rs.length+1=rows.length:=by rw[<-hrd];simp
     have hshr:∀i∈rows,∀x∈bP i,rj tl x:=fun i hi x hx=>WL hiv htl htn (hold i hi) hx
     refine DW.aO aC aD [2,5,10,11,13,14,15,92,93] [3000] 300 (fun x:{j:Nat // j≤rows.length}=>[(94,i64 x.1)]) (fun x=>[(3000,.arr 29 ((bq (ec tl) rows x.1).map Ins.cells))]) [] (fun x=>rows.length+1 - x.1) (⟨0,zbq _⟩) ?_
     (conv=>whnf)
     refine⟨?_,fun x=>?_⟩
     . conv => whnf
       (repeat' first|exact True.intro|apply And.intro|rfl|exact YL hrd|exact jO|exact eg (f:=ic) (fun _=>by rfl)|exact c_ (f:=ic) (fun _=>by rfl))
     rcases x with⟨j,hj⟩
     have hlen2:=gK (ec tl) rows (j:=j)
     (try dsimp only at hj)
     refine zk ?_
     repeat' ((first|(apply bR;(focus (exact (eV (l:=bq (ec tl) rows j) (n:=(j:Int)) eE))))|refine zd func44 ?_|refine DV.new rfl (rA c.b.l cF h70) ry rfl ?_|(apply bR;(focus (exact (eV (l:=c.b.l) (n:=(q:Int)) eE))))|(refine zp ?_ ?_<;>first|exact⟨⟩|intro h)|(refine zh rfl (YM ((bq (ec tl) rows j)[((j:Int)).toNat]'eE) tl aa (YK hshr aa (rO aa _))) ?_;rintro _ rfl))<;>refine zk ?_)
     . refine ⟨⟨j + 1, aa⟩, ?_, rfl, bH⟩
       (conv=>whnf)
       (repeat' first|exact True.intro|apply And.intro|rfl|exact jO|exact gR (YJ (tl:=tl) (rows:=rows) (j:=j) aa)|exact eg (f:=ic) (fun _=>by rfl)|exact c_ (f:=ic) (fun _=>by rfl)|(refine cw ?_ ?_ ?_<;>(try dsimp only)<;>omega))
     . have hje : j = rows.length := aa
       have hg0:∀i∈(bq (ec tl) rows j),i.op=16->∃i0∈c.b.l[q].ins.l,i0.op=16∧i0.p=i.p∧i0.n=i.n:=fun i hi h=>WK hold (by rw[pV hje] at hi;exact hi) h
       have hin0:∀i∈(bq (ec tl) rows j),i.op=16->i.p=(q:Int)->0≤i.n∧i.n.toNat<tl.length:=fun i hi h h2=>by
        obtain⟨i0,h0,e1,e2,e3⟩:=hg0 i hi h;have:=hgto _ (za9 hq) i0 h0 e1 aa;omega
       have hinb:∀(n:Nat) (hn:n<c.b.l.length),∀i∈c.b.l[n].ins.l,i.op=16->i.p=(q:Int)->0≤i.n∧i.n.toNat<tl.length:=fun n hn i hi h h2=>by
        have:=hgto _ (za9 hn) i hi h h2;omega
       obtain⟨nb,hnb1,hnb2⟩:∃nb:Bd,nb.ah=kn∧nb.ins.l=(bq (ec tl) rows j).map (bT q tl):=⟨⟨kn,⟨(bq (ec tl) rows j).map (bT q tl),by rw[zba,hlen2];omega⟩⟩,rfl,rfl⟩
       have hnb3:nb.cells=[i64 kn,.ak 29 (((bq (ec tl) rows j).map (bT q tl)).map Ins.cells)]:=by rw[Bd.cells,hnb1,hnb2]
       have hlenall:∀(n:Nat) (h:n<c.b.l.length),c.b.l[n].ins.l.length≤10000:=fun n h=>hall _ (za9 h)
       have hq':q<c.b.l.length:=hq;refine DW.ot 8347 _ [(2,i64 q),(10,_),(11,.ai),(14,.ay 1000 0 ((os.map ic).length+1) 1),(15,.ak 1 (tl.map ic)),(23,.ptr 8344 0 0),(116,_),(117,_)] [(2,_),(1000,.arr 1 (ic o::os.map ic)),(3000,.arr 29 ((bq (ec tl) rows j).map Ins.cells)),(8344,.arr 7 [[mn c.p.procs.l,i64 c.p.static,nj c.p.image.l,pY c.p.files.l,.ak 1 (c.p.conds.l.map fun s=>[.str s.l]),aT c.p.dv.l,.ay 8353 0 c.b.l.length 2]]),(8353,.arr 2 (eW q tl c.b.l kn 3000 ((rs.map Ins.cells).length+1) 0))] rfl ⟨⟨_,rfl,.inl rfl⟩,⟨⟨_,rfl,.inl rfl⟩,⟨⟨_,rfl,.inl rfl⟩,⟨⟨_,rfl,.inl rfl⟩,⟨⟨_,rfl,.inl rfl⟩,⟨⟨_,rfl,.inl rfl⟩,⟨⟨_,rfl,.inl rfl⟩,⟨⟨_,rfl,.inl rfl⟩,trivial⟩⟩⟩⟩⟩⟩⟩⟩ ⟨⟨ab,_,rfl,.inl rfl⟩,⟨⟨ab,_,rfl,.inl rfl⟩,⟨⟨ab,_,rfl,.inl rfl⟩,⟨⟨ab,_,rfl,.inl rfl⟩,⟨⟨ab,_,rfl,.inl (zbc (an.arr 2) Xk.symm)⟩,trivial⟩⟩⟩⟩⟩ ?_
       refine DW.Ct aC aD [2, 10, 11, 14, 15, 23, 116] [8353, 3000] 20000 (fun x:{x:B3 // x.ok q c.b.l.length}=>match x.1 with
        | .pre n=>[(117,i64 n)]
        | .post n => [(117, i64 n)]) (fun x=>match x.1 with
        | .pre n=>[(8353,.arr 2 (eW q tl c.b.l kn 3000 ((rs.map Ins.cells).length+1) n)),(3000,.arr 29 ((bq (ec tl) rows j).map Ins.cells))]
        | .post n=>[(8353,.arr 2 (dB q tl c.b.l nb n))]) [] (fun x=>c.b.l.length+1 - x.1.n) (⟨.pre 0,zbq _⟩) ?_
       (conv=>whnf)
       refine⟨?_,fun x=>?_⟩
       . conv => whnf
         (repeat' first|exact True.intro|apply And.intro|rfl|exact oO (s:=2) rfl aB|exact sF (s:=2) aB|exact jO (s:=29)|exact gR (s:=29) rfl|exact eg (f:=ic) (fun _=>by rfl)|exact c_ (f:=ic) (fun _=>by rfl))
       rcases x with⟨⟨n⟩|⟨n⟩,hx⟩
       . have hx0 : n ≤ q := hx
         have hnl:n<c.b.l.length:=aa
         by_cases hnq:n=q
         . have hx1 : n = q := hnq
           refine zk ?_
           repeat' ((first|(apply bR;(focus (exact ij)))|(refine zp ?_ ?_<;>first|exact⟨⟩|intro h))<;>refine zk ?_)
           refine DW.aO aC aD [2,10,11,14,15,23,24,116,117,140,141] [3000] 500 (fun y:{w:Nat // w≤(bq (ec tl) rows j).length}=>[(142,i64 y.1)]) (fun y=>[(3000,.arr 29 ((bq (bT q tl) (bq (ec tl) rows j) y.1).map Ins.cells))]) [] (fun y=>(bq (ec tl) rows j).length+1 - y.1) (⟨0,zbq _⟩) ?_
           (conv=>whnf)
           refine⟨?_,fun y=>?_⟩
           . conv => whnf
             (repeat' first|exact True.intro|apply And.intro|rfl|exact gR (s:=29) (by rw[pU])|exact jO (s:=29)|exact oO (s:=2) rfl aB|exact sF (s:=2) aB|exact eg (sz:=1) (f:=ic) (fun _=>by rfl)|exact c_ (sz:=1) (f:=ic) (fun _=>by rfl))
           rcases y with⟨y,hy⟩
           have hyl:(bq (bT q tl) (bq (ec tl) rows j) y).length=(bq (ec tl) rows j).length:=gK (bT q tl) (bq (ec tl) rows j);have hpat:∀h:y<(bq (ec tl) rows j).length,((bq (bT q tl) (bq (ec tl) rows j) y)[((y:Int)).toNat]'jo).op=16->((bq (bT q tl) (bq (ec tl) rows j) y)[((y:Int)).toNat]'jo).p=(q:Int)->0≤((bq (bT q tl) (bq (ec tl) rows j) y)[((y:Int)).toNat]'jo).n∧((bq (bT q tl) (bq (ec tl) rows j) y)[((y:Int)).toNat]'jo).n.toNat<tl.length:=fun h=>by
            rw[sD h];exact hin0 _ (za9 h)
           (try dsimp only at hy)
           refine zk ?_
           repeat' ((first|(refine Rq.mk zO ?_)|(refine zb ?_ ?_<;>(first|exact⟨⟩|intro h)<;>try (exfalso;(first|omega|(have hpa:=hpat aa;omega))))|(refine az.mk _ (dA o9) ?_)|(apply bR;(focus (exact (by first|exact eV (l:=bq (bT q tl) (bq (ec tl) rows j) y) (n:=(y:Int)) aa|exact eV (l:=tl) (f:=ic) (by have:=hpat aa;omega)|exact sC ag tB|exact sG eE hq)))))<;>refine zk ?_)
           all_goals first
            | (refine ⟨⟨y + 1, aa⟩, ?_, rfl, bH⟩
               (conv=>whnf)
               (repeat' first|exact True.intro|apply And.intro|rfl|exact gR (s:=29) (ya (q:=q) (tl:=tl) (L:=(bq (ec tl) rows j)) (j:=y) aa aa (zbc Ins.cells (x_ aa aa).symm))|exact gR (s:=29) (yb (q:=q) (tl:=tl) (L:=(bq (ec tl) rows j)) (j:=y) aa aa aa)|exact jO (s:=29)|exact oO (s:=2) rfl aB|exact sF (s:=2) aB|exact eg (sz:=1) (f:=ic) (fun _=>by rfl)|exact c_ (sz:=1) (f:=ic) (fun _=>by rfl)|(refine cw ?_ ?_ ?_<;>(try dsimp only)<;>omega)))
            | (refine ⟨⟨.post (n + 1), tt⟩, _, iQ.z 3000 _ [(2, _), (10, _), (11, _), (14, _), (15, _), (23, _), (116, _), (117, _)] [(2, _), (1000, _), (8344, _), (8353, .arr 2 (dB q tl c.b.l nb (n + 1)))] rfl ⟨⟨_, rfl, .inl rfl⟩, ⟨⟨_, rfl, .inl rfl⟩, ⟨⟨_, rfl, .inl rfl⟩, ⟨⟨_, rfl, .inl rfl⟩, ⟨⟨_, rfl, .inl rfl⟩, ⟨⟨_, rfl, .inl rfl⟩, ⟨⟨_, rfl, .inl rfl⟩, ⟨⟨_, rfl, .inl rfl⟩, trivial⟩⟩⟩⟩⟩⟩⟩⟩ ⟨⟨ab, _, rfl, .inl rfl⟩, ⟨⟨ab, _, rfl, .inl rfl⟩, ⟨⟨ab, _, rfl, .inl rfl⟩, ⟨⟨ab, _, rfl, SJ hx1 hq (xd (L := (bq (ec tl) rows j).map (bT q tl)) (by rw [pV (by omega : y = (bq (ec tl) rows j).length)]) (by simp only [zba, gK] <;> omega)) hnb3⟩, trivial⟩⟩⟩⟩, ?_, rfl, (show _ - _ < _ - _ from (by simp only [B3.n]; omega))⟩
               (conv=>whnf)
               (exact qwU))
         . by_cases hins : c.b.l[n].ins.l = []
           . skip
             refine zk ?_
             repeat' ((first|(refine zh rfl (gD _ hins) ?_;rintro _ rfl)|(apply bR;(focus (exact ij)))|(refine zp ?_ ?_<;>first|exact⟨⟩|intro h))<;>refine zk ?_)
             refine DW.aO aC aD [2,10,11,14,15,23,116,117,141] [8353] 500 (fun y:Nat=>[(142,i64 (0:Int))]) (fun _=>[(8353,.arr 2 (eW q tl c.b.l kn 3000 ((rs.map Ins.cells).length+1) (n+1)))]) [] (fun y=>y) (0) ?_
             (conv=>whnf)
             refine⟨?_,fun y=>?_⟩
             . conv => whnf
               (repeat' first|exact True.intro|apply And.intro|rfl|exact oO (s:=2) (by rw[<-C9 hnl hnq (by rw[C3 hins])];congr 1;simp) aB|exact sF (s:=2) aB|exact gR (s:=29) rfl|exact jO (s:=29)|exact eg (sz:=1) (f:=ic) (fun _=>by rfl)|exact c_ (sz:=1) (f:=ic) (fun _=>by rfl))
             refine zg ?_
             repeat' ((first|(refine zp ?_ ?_<;>first|exact⟨⟩|intro h))<;>refine zg ?_)
             all_goals first
              | (refine ⟨⟨.pre (n + 1), (show n + 1 ≤ q by omega)⟩, _, iQ.r, ?_, rfl, (show _ - _ < _ - _ from (by simp only [B3.n]; omega))⟩
                 (conv=>whnf)
                 (repeat' first|exact True.intro|apply And.intro|rfl|exact oO (s:=2) rfl aB|exact sF (s:=2) aB|exact gR (s:=29) rfl|exact jO (s:=29)|exact eg (sz:=1) (f:=ic) (fun _=>by rfl)|exact c_ (sz:=1) (f:=ic) (fun _=>by rfl)|(refine cw ?_ ?_ ?_<;>(try dsimp only)<;>omega)))
           . skip
             refine zk ?_
             repeat' ((first|(refine DV.new rfl (kb _ hins mE) kg rfl ?_)|(apply bR;(focus (exact ij)))|(refine zp ?_ ?_<;>first|exact⟨⟩|intro h))<;>refine zk ?_)
             refine DW.aO aC aD [2,10,11,14,15,23,24,116,117,140,141] [8353,28384] 500 (fun y:{w:Nat // w≤c.b.l[n].ins.l.length}=>[(142,i64 y.1)]) (fun y=>[(8353,.arr 2 ((eW q tl c.b.l kn 3000 ((rs.map Ins.cells).length+1) n).set n (je c.b.l[n].ah 28384 c.b.l[n].ins.l.length))),(28384,.arr 29 ((bq (bT q tl) c.b.l[n].ins.l y.1).map Ins.cells))]) [] (fun y=>c.b.l[n].ins.l.length+1 - y.1) (⟨0,zbq _⟩) ?_
             (conv=>whnf)
             refine⟨?_,fun y=>?_⟩
             . conv => whnf
               (repeat' first|exact True.intro|apply And.intro|rfl|exact gR (s:=29) (by rw[pU])|exact jO (s:=29)|exact gR (s:=29) rfl|exact JR (s:=2) (by first|rfl|(congr 1;simp)) aB aB|exact JQ (s:=2) aB aB|exact eg (sz:=1) (f:=ic) (fun _=>by rfl)|exact c_ (sz:=1) (f:=ic) (fun _=>by rfl))
             rcases y with⟨y,hy⟩
             have hln:=hlenall n hnl;have hyl:(bq (bT q tl) c.b.l[n].ins.l y).length=c.b.l[n].ins.l.length:=gK (bT q tl) c.b.l[n].ins.l;have hpat:∀h:y<c.b.l[n].ins.l.length,((bq (bT q tl) c.b.l[n].ins.l y)[((y:Int)).toNat]'jo).op=16->((bq (bT q tl) c.b.l[n].ins.l y)[((y:Int)).toNat]'jo).p=(q:Int)->0≤((bq (bT q tl) c.b.l[n].ins.l y)[((y:Int)).toNat]'jo).n∧((bq (bT q tl) c.b.l[n].ins.l y)[((y:Int)).toNat]'jo).n.toNat<tl.length:=fun h=>by
              rw[sD h];exact hinb n hnl _ (za9 h)
             (try dsimp only at hy)
             refine zk ?_
             repeat' ((first|(refine Rq.mk zO ?_)|(refine zb ?_ ?_<;>(first|exact⟨⟩|intro h)<;>try (exfalso;(first|omega|(have hpa:=hpat aa;omega))))|(refine az.mk _ (dA o9) ?_)|(apply bR;(focus (exact th))))<;>refine zk ?_)
             all_goals first
              | (refine ⟨⟨y + 1, aa⟩, ?_, rfl, bH⟩
                 (conv=>whnf)
                 (repeat' first|exact True.intro|apply And.intro|rfl|exact gR (s:=29) (ya (q:=q) (tl:=tl) (L:=c.b.l[n].ins.l) (j:=y) aa aa (zbc Ins.cells (x_ aa aa).symm))|exact gR (s:=29) (yb (q:=q) (tl:=tl) (L:=c.b.l[n].ins.l) (j:=y) aa aa aa)|exact jO (s:=29)|exact gR (s:=29) rfl|exact JR (s:=2) (by first|rfl|(congr 1;simp)) aB aB|exact JQ (s:=2) aB aB|exact eg (sz:=1) (f:=ic) (fun _=>by rfl)|exact c_ (sz:=1) (f:=ic) (fun _=>by rfl)|(refine cw ?_ ?_ ?_<;>(try dsimp only)<;>omega)))
              | (refine ⟨⟨.pre (n + 1), (show n + 1 ≤ q by omega)⟩, _, iQ.z 28384 _ [(2, _), (10, _), (11, _), (14, _), (15, _), (23, _), (116, _), (117, _)] [(2, _), (1000, _), (8344, _), (8353, .arr 2 (eW q tl c.b.l kn 3000 ((rs.map Ins.cells).length + 1) (n + 1))), (3000, _)] rfl ⟨⟨_, rfl, .inl rfl⟩, ⟨⟨_, rfl, .inl rfl⟩, ⟨⟨_, rfl, .inl rfl⟩, ⟨⟨_, rfl, .inl rfl⟩, ⟨⟨_, rfl, .inl rfl⟩, ⟨⟨_, rfl, .inl rfl⟩, ⟨⟨_, rfl, .inl rfl⟩, ⟨⟨_, rfl, .inl rfl⟩, trivial⟩⟩⟩⟩⟩⟩⟩⟩ ⟨⟨ab, _, rfl, .inl rfl⟩, ⟨⟨ab, _, rfl, .inl rfl⟩, ⟨⟨ab, _, rfl, .inl rfl⟩, ⟨⟨ab, _, rfl, SK hnl hnq rfl (xd (L := c.b.l[n].ins.l.map (bT q tl)) (by rw [pV (by omega : y = c.b.l[n].ins.l.length)]) (by simp only [zba, gK] <;> omega))⟩, ⟨⟨ab, _, rfl, .inl rfl⟩, trivial⟩⟩⟩⟩⟩, ?_, rfl, (show _ - _ < _ - _ from (by simp only [B3.n]; omega))⟩
                 (conv=>whnf)
                 (repeat' first|exact True.intro|apply And.intro|rfl|exact oO (s:=2) rfl aB|exact sF (s:=2) aB|exact gR (s:=29) rfl|exact jO (s:=29)|exact eg (sz:=1) (f:=ic) (fun _=>by rfl)|exact c_ (sz:=1) (f:=ic) (fun _=>by rfl)|(refine cw ?_ ?_ ?_<;>(try dsimp only)<;>omega)))
       . have hx0 : q < n ∧ n ≤ c.b.l.length := hx
         have hnq:n≠q:=aa
         by_cases hnl:n<c.b.l.length
         . by_cases hins : c.b.l[n].ins.l = []
           . skip
             refine zk ?_
             repeat' ((first|(refine zh rfl (gD _ hins) ?_;rintro _ rfl)|(apply bR;(focus (exact ij)))|(refine zp ?_ ?_<;>first|exact⟨⟩|intro h))<;>refine zk ?_)
             refine DW.aO aC aD [2,10,11,14,15,23,116,117,141] [8353] 500 (fun y:Nat=>[(142,i64 (0:Int))]) (fun _=>[(8353,.arr 2 (dB q tl c.b.l nb (n+1)))]) [] (fun y=>y) (0) ?_
             (conv=>whnf)
             refine⟨?_,fun y=>?_⟩
             . conv => whnf
               (exact qwR)
             refine zg ?_
             repeat' ((first|(refine zp ?_ ?_<;>first|exact⟨⟩|intro h))<;>refine zg ?_)
             all_goals first
              | (refine ⟨⟨.post (n + 1), tt⟩, _, iQ.r, ?_, rfl, (show _ - _ < _ - _ from (by simp only [B3.n]; omega))⟩
                 (conv=>whnf)
                 (exact qwR))
           . skip
             refine zk ?_
             repeat' ((first|(refine DV.new rfl (kb _ hins mE) kg rfl ?_)|(apply bR;(focus (exact ij)))|(refine zp ?_ ?_<;>first|exact⟨⟩|intro h))<;>refine zk ?_)
             refine DW.aO aC aD [2,10,11,14,15,23,24,116,117,140,141] [8353,28384] 500 (fun y:{w:Nat // w≤c.b.l[n].ins.l.length}=>[(142,i64 y.1)]) (fun y=>[(8353,.arr 2 ((dB q tl c.b.l nb n).set n (je c.b.l[n].ah 28384 c.b.l[n].ins.l.length))),(28384,.arr 29 ((bq (bT q tl) c.b.l[n].ins.l y.1).map Ins.cells))]) [] (fun y=>c.b.l[n].ins.l.length+1 - y.1) (⟨0,zbq _⟩) ?_
             (conv=>whnf)
             refine⟨?_,fun y=>?_⟩
             . conv => whnf
               (repeat' first|exact True.intro|apply And.intro|rfl|exact gR (s:=29) (by rw[pU])|exact jO (s:=29)|exact yj (s:=2) (by first|rfl|(congr 1;simp)) aB|exact yi (s:=2) aB|exact eg (sz:=1) (f:=ic) (fun _=>by rfl)|exact c_ (sz:=1) (f:=ic) (fun _=>by rfl))
             rcases y with⟨y,hy⟩
             have hln:=hlenall n hnl;have hyl:(bq (bT q tl) c.b.l[n].ins.l y).length=c.b.l[n].ins.l.length:=gK (bT q tl) c.b.l[n].ins.l;have hpat:∀h:y<c.b.l[n].ins.l.length,((bq (bT q tl) c.b.l[n].ins.l y)[((y:Int)).toNat]'jo).op=16->((bq (bT q tl) c.b.l[n].ins.l y)[((y:Int)).toNat]'jo).p=(q:Int)->0≤((bq (bT q tl) c.b.l[n].ins.l y)[((y:Int)).toNat]'jo).n∧((bq (bT q tl) c.b.l[n].ins.l y)[((y:Int)).toNat]'jo).n.toNat<tl.length:=fun h=>by
              rw[sD h];exact hinb n hnl _ (za9 h)
             (try dsimp only at hy)
             refine zk ?_
             repeat' ((first|(refine Rq.mk zO ?_)|(refine zb ?_ ?_<;>(first|exact⟨⟩|intro h)<;>try (exfalso;(first|omega|(have hpa:=hpat aa;omega))))|(refine az.mk _ (dA o9) ?_)|(apply bR;(focus (exact th))))<;>refine zk ?_)
             all_goals first
              | (refine ⟨⟨y + 1, aa⟩, ?_, rfl, bH⟩
                 (conv=>whnf)
                 (repeat' first|exact True.intro|apply And.intro|rfl|exact gR (s:=29) (ya (q:=q) (tl:=tl) (L:=c.b.l[n].ins.l) (j:=y) aa aa (zbc Ins.cells (x_ aa aa).symm))|exact gR (s:=29) (yb (q:=q) (tl:=tl) (L:=c.b.l[n].ins.l) (j:=y) aa aa aa)|exact jO (s:=29)|exact yj (s:=2) (by first|rfl|(congr 1;simp)) aB|exact yi (s:=2) aB|exact eg (sz:=1) (f:=ic) (fun _=>by rfl)|exact c_ (sz:=1) (f:=ic) (fun _=>by rfl)|(refine cw ?_ ?_ ?_<;>(try dsimp only)<;>omega)))
              | (refine ⟨⟨.post (n + 1), tt⟩, _, iQ.z 28384 _ [(2, _), (10, _), (11, _), (14, _), (15, _), (23, _), (116, _), (117, _)] [(2, _), (1000, _), (8344, _), (8353, .arr 2 (dB q tl c.b.l nb (n + 1)))] rfl ⟨⟨_, rfl, .inl rfl⟩, ⟨⟨_, rfl, .inl rfl⟩, ⟨⟨_, rfl, .inl rfl⟩, ⟨⟨_, rfl, .inl rfl⟩, ⟨⟨_, rfl, .inl rfl⟩, ⟨⟨_, rfl, .inl rfl⟩, ⟨⟨_, rfl, .inl rfl⟩, ⟨⟨_, rfl, .inl rfl⟩, trivial⟩⟩⟩⟩⟩⟩⟩⟩ ⟨⟨ab, _, rfl, .inl rfl⟩, ⟨⟨ab, _, rfl, .inl rfl⟩, ⟨⟨ab, _, rfl, .inl rfl⟩, ⟨⟨ab, _, rfl, Hi hnl hnq rfl (xd (L := c.b.l[n].ins.l.map (bT q tl)) (by rw [pV (by omega : y = c.b.l[n].ins.l.length)]) (by simp only [zba, gK] <;> omega))⟩, trivial⟩⟩⟩⟩, ?_, rfl, (show _ - _ < _ - _ from (by simp only [B3.n]; omega))⟩
                 (conv=>whnf)
                 (exact qwU))
         . skip
           refine zk ?_
           repeat' ((first|(refine zp ?_ ?_<;>first|exact⟨⟩|intro h))<;>refine zk ?_)
           have hnn:n=c.b.l.length:=aa
           generalize hg2:snap _ 20 _=rr
           obtain rfl:=hg2.symm.trans (o3 (n:=19) (lM (n:=18) (aJ rfl (aJ rfl (aJ rfl (aJ rfl (aJ rfl (aJ rfl (aJ (fj (f:=Bd.cells) (l:=(ku c q tl nb).b.l) (n:=17) (fun _=>rfl) rfl (JP hnn) (by simp[ku])) rfl)))))))) (fj (f:=ic) (l:=o::os) (n:=18) (fun _=>rfl) rfl rfl ag))
           exact⟨ku c q tl nb,_,o::os,rfl,Told.r,mQ.mk' hxx htd2 (pV hje) hnb1 hnb2 hkw⟩
theorem Zs (c:Cd)(k:Int)(q n:Nat)(h:tU c k q n) :
 af 46 [c.av,i64 k,i64 q,aT (a_ n),.bool true] (fun ae=>∃(out:Cd) (v:AV) (of:List Int),ae = .ret (.ao [out.av,v])∧Told v (aT of)∧mQ c k q (c.b.l[q]'h.hq).ins.l (c.b.l[q]'h.hq).ah out of):=by
 rcases zbX (c.b.l[q]'h.hq).ins.l.length with h0|h0
 . exact Zq c k q n h fun _=>h0
 . exact Zr c k q n h fun _=>h0
theorem Zp (c:Cd)(k:Int)(q n:Nat)(h:tU c k q n) :
 af 46 [c.av,i64 k,i64 q,aT (a_ n),.bool true] (fun ae=>∃(out:Cd) (of:List Int),ae = .ret (.ao [out.av,aT of])∧mQ c k q (c.b.l[q]'h.hq).ins.l (c.b.l[q]'h.hq).ah out of):=
 (Zs c k q n h).told (by
  rintro _ ⟨out,v,of,rfl,ht,h1⟩
  exact⟨_,.ao [out.av,aT of],rfl,Told.ao ⟨.r,ht,trivial⟩,out,of,rfl,h1⟩)
end Go.Ago
