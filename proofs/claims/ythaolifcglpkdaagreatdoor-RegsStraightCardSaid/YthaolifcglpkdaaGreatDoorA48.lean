/-
  Part 48: lemmas, each with its own conditions.
-/
import Derived.Test.YthaolifcglpkdaaGreatDoorA47
set_option maxRecDepth 100000
set_option maxHeartbeats 0
set_option linter.all false
namespace Go.Ago
open Go.Proofs
attribute [local irreducible] ltI leI eqI eqS shrI wr inB mmI comp DC DP DW DV
attribute [local irreducible] ckP ct InR PLc zev zeu zdo zcf ckC zb7 entN zbh za3 bitW EntP upR zby
attribute [local irreducible] preR zcp za9 patI patB
theorem spilled46_s (c:Cd)(k:Int)(q n:Nat)(h:SpH c k q n)(h0:∀hq:q<c.b.l.length,0<c.b.l[q].ins.l.length) :
 DPR 46 [c.av,i64 k,i64 q,zaq (zby n),.bool true] (fun ae=>∃(out:Cd) (v:AV) (of:List Int),ae = .ret (.tup [out.av,v])∧Told v (zaq of)∧SpilledP c q out∧of.length≤4 * (c.b.l[q]'h.hq).ins.l.length):=by
 obtain⟨hq,h70,hk,hn,hrg,hlen,hiv,hlst,hgto,hall⟩:=h;have hz:=h0 hq;have hcl:=c.b.h;have hne:c.b.l≠[]:=fun e=>by rw[e] at hq;simp at hq
 refine zaf eRg zae Tryz.func46 rfl (by decide) rfl rfl ?_
 conv=>whnf
 repeat' ((first|refine Ok3.mk _ (zam (l:=c.b.l) (i:=q) hq) ?_|refine Rq.mk (by(first|rfl|((try simp only[rz]);omega))) ?_)<;>conv=>whnf)
 generalize hkn:wr .i64 (k+(c.b.l[q]).regs)=kn
 refine zoq 1 (.arr 1 [[zaq (zby n)]]) [(1,_),(2,_),(4,_),(5,_),(10,_),(11,_),(12,(.fn (.func 89) [] [.rptr [zaq (zby n)]])),(13,_),(42,_),(43,_),(44,_),(14,_),(15,_)] [(0,_),(2,_),(15,_)] rfl ⟨⟨_,rfl,.inl rfl⟩,⟨⟨_,rfl,.inl rfl⟩,⟨⟨_,rfl,.inl rfl⟩,⟨⟨_,rfl,.inl rfl⟩,⟨⟨_,rfl,.inl rfl⟩,⟨⟨_,rfl,.inl rfl⟩,⟨⟨_,rfl,.inr rfl⟩,⟨⟨_,rfl,.inl rfl⟩,⟨⟨_,rfl,.inl rfl⟩,⟨⟨_,rfl,.inl rfl⟩,⟨⟨_,rfl,.inl rfl⟩,⟨⟨_,rfl,.inl rfl⟩,⟨⟨_,rfl,.inl rfl⟩,trivial⟩⟩⟩⟩⟩⟩⟩⟩⟩⟩⟩⟩⟩ ⟨⟨by decide,_,rfl,.inl rfl⟩,⟨⟨by decide,_,rfl,.inl rfl⟩,⟨⟨by decide,_,rfl,.inl rfl⟩,trivial⟩⟩⟩ ?_
 refine zai eRg zae [1, 2, 4, 5, 10, 11, 12, 13, 42, 43] [15] 8000 (fun x:{x:SpX // x.ok c.b.l[q].ins.l}=>match x.1 with
  | .z=>[(44,i64 ((0:Nat):Int)),(14,.nils),(15,.nils)]
  | .s m o os t ts r rs => [(44, i64 m), (14, .slc 1000 0 ((os.map ic).length + 1) 1), (15, .slc 2000 0 ((ts.map ic).length + 1) 1)]) (fun x=>match x.1 with
  | .z=>[(15,.arr 2 [[i64 kn,.nils]])]
  | .s m o os t ts r rs=>[(15,.arr 2 [[i64 kn,.slc 3000 0 ((rs.map Ins.cells).length+1) 29]]),(1000,.arr 1 (ic o::os.map ic)),(2000,.arr 1 (ic t::ts.map ic)),(3000,.arr 29 (r.cells::rs.map Ins.cells))]) [(1000,.slot 14),(2000,.slot 15),(3000,.cell 15 1)] (fun x=>c.b.l[q].ins.l.length+1 - x.1.m) (⟨.z,trivial⟩) ?_
 conv=>whnf
 refine⟨?_,fun x=>?_⟩
 · conv => whnf
   (repeat' first|exact True.intro|apply And.intro|rfl)
 rcases x with⟨_|⟨m,o,os,t,ts,r,rs⟩,hx⟩
 · have hx0 := SpS.start c.b.l[q].ins.l
   have hmb:0≤c.b.l[q].ins.l.length:=Nat.zero_le _
   conv=>whnf
   repeat' ((first|refine Br.f (b:=Nat.beq _ _) rfl ?_|refine Ok3.mk _ (zam (l:=c.b.l[q].ins.l) (i:=0) (by omega)) ?_|refine Rq.mk (by(first|rfl|((try simp only[rz]);omega))) ?_|refine Br.split (fun h=>?_) (fun h=>?_)<;>(try simp only[bz] at h)|(refine zaa rfl (zm3 (c.b.l[q].ins.l[0]'(by omega)) k n ⟨hk.1,by omega⟩ (by omega) (hlst _ (List.getElem_mem _)) (hiv _ (List.getElem_mem _)).hi) ?_;rintro _ ⟨out,at_,rfl,hb⟩;obtain⟨y0,ys,rfl⟩:=zwe hb))<;>conv=>whnf)
   · have hlt : 0 < c.b.l[q].ins.l.length := by omega
     have hob:=ycu hb;simp only[List.length_cons] at hob;refine zai eRg zae [1,2,4,5,10,11,12,13,15,16,17,18,19,42,43,44,45,46,47,48,49,50,51,52,53,54,55,56,57,58,59,60,61,62,63,64] [] 6000 (fun y:{y:Nat×List Int // y.2.length=0+y.1∧y.1≤ys.length+1}=>[(65,i64 y.1.1),(14,accV 9000 1 (y.1.2.map ic))]) (fun y=>accH 9000 1 (y.1.2.map ic)) [(9000,.slot 14)] (fun y=>ys.length+2 - y.1.1) (⟨(0,[]),rfl,Nat.zero_le _⟩) ?_
     conv=>whnf
     refine⟨?_,fun y=>?_⟩
     · conv => whnf
       (repeat' first|exact True.intro|apply And.intro|rfl)
     rcases y with⟨⟨j,_|⟨o2,os2⟩⟩,hy1,hy2⟩
     all_goals
      dsimp only at hy1 hy2;simp only[List.length_cons,List.length_nil] at hy1
     · skip
       conv=>whnf
       repeat' ((first|refine Br.f (b:=Nat.beq _ _) rfl ?_|refine Rq.mk (by(rfl )) ?_|refine Br.split (fun h=>?_) (fun h=>?_)<;>(try simp only[bz] at h)<;>try (exfalso;omega))<;>conv=>whnf)
       · (refine⟨⟨(j+1,[((0:Nat):Int)]),(by simp;omega),(by(dsimp only);omega)⟩,(by(conv=>whnf);(repeat' first|exact True.intro|apply And.intro|rfl|(refine cw ?_ ?_ ?_<;>(try dsimp only)<;>omega) )),rfl,(by(dsimp only);omega)⟩)
       · (refine⟨⟨(j+1,[(-1)]),(by simp;omega),(by(dsimp only);omega)⟩,(by(conv=>whnf);(repeat' first|exact True.intro|apply And.intro|rfl|(refine cw ?_ ?_ ?_<;>(try dsimp only)<;>omega) )),rfl,(by(dsimp only);omega)⟩)
     · skip
       conv=>whnf
       repeat' ((first|refine Rq.mk (zur (f:=Ins.cells) (fun _=>rfl)) ?_|refine Rq.mk (ykw 304 rfl (by simp only[List.length_cons,List.length_map,List.length_nil];omega) (by decide)) ?_|refine Br.f (b:=Nat.beq _ _) rfl ?_|refine Rq.mk (zcg 8 8000 (by simp) rfl rfl (by simp only[List.length_cons,List.length_map,List.length_nil];omega) (by decide)) ?_|refine Rq.mk (by(rfl )) ?_|refine Br.split (fun h=>?_) (fun h=>?_)<;>(try simp only[bz] at h))<;>conv=>whnf)
       · (refine⟨⟨(j+1,o2::(os2++[((0:Nat):Int)])),(by simp;omega),(by(dsimp only);omega)⟩,(by(conv=>whnf);(repeat' first|exact True.intro|apply And.intro|rfl|exact zat (by rfl) (by rfl) (by(simp;done) ) (by rfl)|exact za4 (by rfl) (za7 (f:=ic) (fun _=>by rfl) (by rfl) (by simp))|exact zaj (f:=ic) (fun _=>by rfl)|(refine cw ?_ ?_ ?_<;>(try dsimp only)<;>omega) )),rfl,(by(dsimp only);omega)⟩)
       · (refine⟨⟨(j+1,o2::(os2++[(-1)])),(by simp;omega),(by(dsimp only);omega)⟩,(by(conv=>whnf);(repeat' first|exact True.intro|apply And.intro|rfl|exact zat (by rfl) (by rfl) (by(simp;done) ) (by rfl)|exact za4 (by rfl) (za7 (f:=ic) (fun _=>by rfl) (by rfl) (by simp))|exact zaj (f:=ic) (fun _=>by rfl)|(refine cw ?_ ?_ ?_<;>(try dsimp only)<;>omega) )),rfl,(by(dsimp only);omega)⟩)
       · (refine⟨⟨.s (0+1) o2 os2 0 [] y0 ys,SpS.next hx0 hlt hb (by simp only[List.length_cons,List.length_nil];omega) (Int.le_refl 0)⟩,(by(conv=>whnf);(repeat' first|exact True.intro|apply And.intro|rfl|exact zav (f:=ic) (fun _=>by rfl)|exact zaj (f:=ic) (fun _=>by rfl)|exact zav (f:=Ins.cells) (fun _=>by rfl)|exact zaj (f:=Ins.cells) (fun _=>by rfl)|(refine cw ?_ ?_ ?_<;>(try dsimp only)<;>omega) )),rfl,(by(show _ - _<_ - _);simp only[SpX.m];omega)⟩)
   · exfalso;omega
 · have hx0 : SpS c.b.l[q].ins.l m (o :: os) (t :: ts) (r :: rs) := hx
   have hmb:=hx0.ml;have hofl:=hx0.ofl;have htol:=hx0.tol;have hrl:=hx0.rl;simp only[List.length_cons] at hofl htol hrl
   conv=>whnf
   repeat' ((first|refine Br.f (b:=Nat.beq _ _) rfl ?_|refine Rq.mk (zcg 8 8000 (by simp) rfl rfl (by simp only[List.length_cons,List.length_map,List.length_nil];omega) (by decide)) ?_|refine Ok3.mk _ (zam (l:=c.b.l[q].ins.l) (i:=m) (by omega)) ?_|refine Rq.mk (by(first|rfl|((try simp only[rz]);omega))) ?_|refine Br.split (fun h=>?_) (fun h=>?_)<;>(try simp only[bz] at h)|(refine zaa rfl (zm3 (c.b.l[q].ins.l[m]'(by omega)) k n ⟨hk.1,by omega⟩ (by omega) (hlst _ (List.getElem_mem _)) (hiv _ (List.getElem_mem _)).hi) ?_;rintro _ ⟨out,at_,rfl,hb⟩;obtain⟨y0,ys,rfl⟩:=zwe hb))<;>conv=>whnf)
   · have hlt : m < c.b.l[q].ins.l.length := by omega
     have hob:=ycu hb;simp only[List.length_cons] at hob;refine zai eRg zae [1,2,4,5,10,11,12,13,15,16,17,18,19,42,43,44,45,46,47,48,49,50,51,52,53,54,55,56,57,58,59,60,61,62,63,64] [1000,8039] 6000 (fun y:{y:Nat×List Int // y.2.length=os.length+1+y.1∧y.1≤ys.length+1}=>[(65,i64 y.1.1),(14,accV 9000 1 (y.1.2.map ic))]) (fun y=>(8039,.arr 1 (ic t::(ts++[(((rs.map Ins.cells).length+1:Nat):Int)]).map ic))::accH 9000 1 (y.1.2.map ic)) [(9000,.slot 14)] (fun y=>ys.length+2 - y.1.1) (⟨(0,o::os),by simp,Nat.zero_le _⟩) ?_
     conv=>whnf
     refine⟨?_,fun y=>?_⟩
     · conv => whnf
       (repeat' first|exact True.intro|apply And.intro|rfl|exact za4 (by rfl) (za7 (f:=ic) (fun _=>by rfl) (by rfl) (by simp))|exact zav (f:=ic) (fun _=>by rfl)|exact zaj (f:=ic) (fun _=>by rfl)|exact zav (f:=Ins.cells) (fun _=>by rfl)|exact zaj (f:=Ins.cells) (fun _=>by rfl))
     rcases y with⟨⟨j,_|⟨o2,os2⟩⟩,hy1,hy2⟩
     all_goals
      dsimp only at hy1 hy2;simp only[List.length_cons,List.length_nil] at hy1
     · exact absurd hy1 (by omega)
     · skip
       conv=>whnf
       repeat' ((first|refine Rq.mk (zur (f:=Ins.cells) (fun _=>rfl)) ?_|refine Br.f (b:=Nat.beq _ _) rfl ?_|refine Rq.mk (zcg 8 8000 (by simp) rfl rfl (by simp only[List.length_cons,List.length_map,List.length_nil];omega) (by decide)) ?_|refine Rq.mk (ykv 304 (by simp) rfl (by simp only[List.length_cons,List.length_map,List.length_nil];omega) (by decide)) ?_|refine Rq.mk (by(rfl )) ?_|refine Br.split (fun h=>?_) (fun h=>?_)<;>(try simp only[bz] at h))<;>conv=>whnf)
       · (refine⟨⟨(j+1,o2::(os2++[((m:Nat):Int)])),(by simp;omega),(by(dsimp only);omega)⟩,(by(conv=>whnf);(repeat' first|exact True.intro|apply And.intro|rfl|exact zat (by rfl) (by rfl) (by(simp;done) ) (by rfl)|exact za4 (by rfl) (za7 (f:=ic) (fun _=>by rfl) (by rfl) (by simp))|exact zav (f:=ic) (fun _=>by rfl)|exact zaj (f:=ic) (fun _=>by rfl)|exact zav (f:=Ins.cells) (fun _=>by rfl)|exact zaj (f:=Ins.cells) (fun _=>by rfl)|(refine cw ?_ ?_ ?_<;>(try dsimp only)<;>omega) )),rfl,(by(dsimp only);omega)⟩)
       · (refine⟨⟨(j+1,o2::(os2++[(-1)])),(by simp;omega),(by(dsimp only);omega)⟩,(by(conv=>whnf);(repeat' first|exact True.intro|apply And.intro|rfl|exact zat (by rfl) (by rfl) (by(simp;done) ) (by rfl)|exact za4 (by rfl) (za7 (f:=ic) (fun _=>by rfl) (by rfl) (by simp))|exact zav (f:=ic) (fun _=>by rfl)|exact zaj (f:=ic) (fun _=>by rfl)|exact zav (f:=Ins.cells) (fun _=>by rfl)|exact zaj (f:=Ins.cells) (fun _=>by rfl)|(refine cw ?_ ?_ ?_<;>(try dsimp only)<;>omega) )),rfl,(by(dsimp only);omega)⟩)
       · (refine⟨⟨.s (m+1) o2 os2 t (ts++[(((rs.map Ins.cells).length+1:Nat):Int)]) r (rs++y0::ys),SpS.next hx0 hlt hb (by simp only[List.length_cons];omega) (by omega)⟩,(by(conv=>whnf);(repeat' first|exact True.intro|apply And.intro|rfl|exact congrArg (fun v=>AObj.arr 2 [[i64 kn,v]]) (zat (by rfl) (by rfl) (by(simp;omega)) (by rfl))|exact zat (by rfl) (by rfl) (by(simp;done) ) (by rfl)|exact za4 (by rfl) (zdw (f:=Ins.cells) (fun _=>by rfl) (by simp))|exact zav (f:=ic) (fun _=>by rfl)|exact zaj (f:=ic) (fun _=>by rfl)|exact zaj (f:=Ins.cells) (fun _=>by rfl)|(refine cw ?_ ?_ ?_<;>(try dsimp only)<;>omega) )),rfl,(by(show _ - _<_ - _);simp only[SpX.m];omega)⟩)
   · have hme : m = c.b.l[q].ins.l.length := by omega
     have htl:∀x∈t::(ts++[(((rs.map Ins.cells).length+1:Nat):Int)]),0≤x:=fun x hx=>by
      rcases List.mem_cons.1 hx with rfl|hx
      · exact hx0.to0 _ List.mem_cons_self
      · rcases List.mem_append.1 hx with hx | hx
        · exact hx0.to0 _ (List.mem_cons_of_mem _ hx)
        · rw[List.mem_singleton.1 hx];exact Int.natCast_nonneg _
     have htn:(t::(ts++[(((rs.map Ins.cells).length+1:Nat):Int)])).length=c.b.l[q].ins.l.length+1:=by simp only[List.length_cons,List.length_append,List.length_nil];omega
     have hold:=hx0.old;have hof1:(o::os).length≤4 * c.b.l[q].ins.l.length:=by rw[← hme];exact hx0.ofl
     have hrw1:(r::rs).length≤4 * c.b.l[q].ins.l.length:=by rw[← hme];exact hx0.rl
     refine zoq 8033 _ [(2,_),(5,_),(10,_),(11,_),(13,_),(14,_),(15,.rsl 1 ((t::(ts++[(((rs.map Ins.cells).length+1:Nat):Int)])).map ic)),(92,_),(93,_),(94,_)] [(0,_),(2,_),(15,_),(1000,_),(3000,_)] rfl ⟨⟨_,rfl,.inl rfl⟩,⟨⟨_,rfl,.inl rfl⟩,⟨⟨_,rfl,.inl rfl⟩,⟨⟨_,rfl,.inl rfl⟩,⟨⟨_,rfl,.inl rfl⟩,⟨⟨_,rfl,.inl rfl⟩,⟨⟨_,rfl,.inr (yjf (zxn (by rfl) (by simp)) (ykx (f:=ic) (by rfl) (by simp)) rfl)⟩,⟨⟨_,rfl,.inl rfl⟩,⟨⟨_,rfl,.inl rfl⟩,⟨⟨_,rfl,.inl rfl⟩,trivial⟩⟩⟩⟩⟩⟩⟩⟩⟩⟩ ⟨⟨by decide,_,rfl,.inl rfl⟩,⟨⟨by decide,_,rfl,.inl rfl⟩,⟨⟨by decide,_,rfl,.inl rfl⟩,⟨⟨by decide,_,rfl,.inl rfl⟩,⟨⟨by decide,_,rfl,.inl rfl⟩,trivial⟩⟩⟩⟩⟩ ?_
     generalize htd:t::(ts++[(((rs.map Ins.cells).length+1:Nat):Int)])=tl at htl htn
     generalize hrd:r::rs=rows at hold hrw1
     have hrl2:(rs.map Ins.cells).length+1=rows.length:=by rw[← hrd];simp
     have hrl3:rs.length+1=rows.length:=by rw[← hrd];simp
     have hshr:∀i∈rows,∀x∈zbc i,ShOK tl x:=fun i hi x hx=>ynp hiv htl htn (hold i hi) hx
     refine zai eRg zae [2,5,10,11,13,14,15,92,93] [3000] 300 (fun x:{j:Nat // j≤rows.length}=>[(94,i64 x.1)]) (fun x=>[(3000,.arr 29 ((za9 (shF tl) rows x.1).map Ins.cells))]) [] (fun x=>rows.length+1 - x.1) (⟨0,Nat.zero_le _⟩) ?_
     conv=>whnf
     refine⟨?_,fun x=>?_⟩
     · conv => whnf
       (repeat' first|exact True.intro|apply And.intro|rfl|exact ydq hrd|exact zdv|exact zav (f:=ic) (fun _=>by rfl)|exact zaj (f:=ic) (fun _=>by rfl))
     rcases x with⟨j,hj⟩
     have hlen2:=zbj (shF tl) rows (j:=j)
     (try dsimp only at hj)
     conv=>whnf
     repeat' ((first|refine zap (zbl (l:=za9 (shF tl) rows j) (n:=(j:Int)) (by simp;omega)) ?_|refine zay eRg zae Tryz.func44 rfl (by decide) rfl rfl ?_|refine zkh rfl (zmv c.b.l hne h70) zpx rfl ?_|refine zap (zbl (l:=c.b.l) (n:=(q:Int)) (by simp;omega)) ?_|refine Rq.mk (b:=chk3 _ _ _ _ _ _) (by kernel_rfl) ?_|refine Rq.mk (by(first|rfl|((try simp only[rz]);omega))) ?_|refine Br.split (fun h=>?_) (fun h=>?_)<;>(try simp only[bz] at h)|refine And.intro (a:=zaw _=true) (by kernel_rfl) (LzK.e ?_)|(refine zar rfl (zy2 ((za9 (shF tl) rows j)[((j:Int)).toNat]'(by simp;omega)) tl (by omega) (ym5 hshr (by omega) (zfn (by omega) _))) ?_;rintro _ rfl;refine⟨_,rfl,?_⟩))<;>conv=>whnf)
     · refine ⟨⟨j + 1, by omega⟩, ?_, rfl, (by (dsimp only); omega)⟩
       conv=>whnf
       (repeat' first|exact True.intro|apply And.intro|rfl|exact zdv|exact zb1 (yh3 (tl:=tl) (rows:=rows) (j:=j) (by omega))|exact zav (f:=ic) (fun _=>by rfl)|exact zaj (f:=ic) (fun _=>by rfl)|(refine cw ?_ ?_ ?_<;>(try dsimp only)<;>omega) )
     · have hje : j = rows.length := by omega
       have hg0:∀i∈(za9 (shF tl) rows j),i.op=16→∃i0∈c.b.l[q].ins.l,i0.op=16∧i0.p=i.p∧i0.n=i.n:=fun i hi h=>yd7 hold (by rw[zfo hje] at hi;exact hi) h
       have hin0:∀i∈(za9 (shF tl) rows j),i.op=16→i.p=(q:Int)→0≤i.n∧i.n.toNat<tl.length:=fun i hi h h2=>by
        obtain⟨i0,h0,e1,e2,e3⟩:=hg0 i hi h;have:=hgto _ (List.getElem_mem hq) i0 h0 e1 (by omega)
        omega
       have hinb:∀(n:Nat) (hn:n<c.b.l.length),∀i∈c.b.l[n].ins.l,i.op=16→i.p=(q:Int)→0≤i.n∧i.n.toNat<tl.length:=fun n hn i hi h h2=>by
        have:=hgto _ (List.getElem_mem hn) i hi h h2;omega
       obtain⟨nb,hnb1,hnb2⟩:∃nb:Bd,nb.regs=kn∧nb.ins.l=(za9 (shF tl) rows j).map (patI q tl):=⟨⟨kn,⟨(za9 (shF tl) rows j).map (patI q tl),by rw[List.length_map,hlen2];omega⟩⟩,rfl,rfl⟩
       have hnb3:nb.cells=[i64 kn,.rsl 29 (((za9 (shF tl) rows j).map (patI q tl)).map Ins.cells)]:=by rw[Bd.cells,hnb1,hnb2]
       have hlenall:∀(n:Nat) (h:n<c.b.l.length),c.b.l[n].ins.l.length≤10000:=fun n h=>hall _ (List.getElem_mem h)
       have hq':q<c.b.l.length:=hq;refine zoq 8347 _ [(2,i64 q),(10,_),(11,.nils),(14,.slc 1000 0 ((os.map ic).length+1) 1),(15,.rsl 1 (tl.map ic)),(23,.ptr 8344 0 0),(116,_),(117,_)] [(2,_),(1000,.arr 1 (ic o::os.map ic)),(3000,.arr 29 ((za9 (shF tl) rows j).map Ins.cells)),(8344,.arr 7 [[ziu c.p.procs.l,i64 c.p.static,zi3 c.p.image.l,ztg c.p.files.l,.rsl 1 (c.p.conds.l.map fun s=>[.str s.l]),zaq c.p.ctl.l,.slc 8353 0 c.b.l.length 2]]),(8353,.arr 2 (preR q tl c.b.l kn 3000 ((rs.map Ins.cells).length+1) 0))] rfl ⟨⟨_,rfl,.inl rfl⟩,⟨⟨_,rfl,.inl rfl⟩,⟨⟨_,rfl,.inl rfl⟩,⟨⟨_,rfl,.inl rfl⟩,⟨⟨_,rfl,.inl rfl⟩,⟨⟨_,rfl,.inl rfl⟩,⟨⟨_,rfl,.inl rfl⟩,⟨⟨_,rfl,.inl rfl⟩,trivial⟩⟩⟩⟩⟩⟩⟩⟩ ⟨⟨by decide,_,rfl,.inl rfl⟩,⟨⟨by decide,_,rfl,.inl rfl⟩,⟨⟨by decide,_,rfl,.inl rfl⟩,⟨⟨by decide,_,rfl,.inl rfl⟩,⟨⟨by decide,_,rfl,.inl (congrArg (AObj.arr 2) pre_start.symm)⟩,trivial⟩⟩⟩⟩⟩ ?_
       refine zwn eRg zae [2, 10, 11, 14, 15, 23, 116] [8353, 3000] 20000 (fun x:{x:B3 // x.ok q c.b.l.length}=>match x.1 with
        | .pre n=>[(117,i64 n)]
        | .post n => [(117, i64 n)]) (fun x=>match x.1 with
        | .pre n=>[(8353,.arr 2 (preR q tl c.b.l kn 3000 ((rs.map Ins.cells).length+1) n)),(3000,.arr 29 ((za9 (shF tl) rows j).map Ins.cells))]
        | .post n=>[(8353,.arr 2 (zcp q tl c.b.l nb n))]) [] (fun x=>c.b.l.length+1 - x.1.n) (⟨.pre 0,Nat.zero_le _⟩) ?_
       conv=>whnf
       refine⟨?_,fun x=>?_⟩
       · conv => whnf
         (repeat' first|exact True.intro|apply And.intro|rfl|exact zez (s:=2) rfl (by rfl)|exact zju (s:=2) (by rfl)|exact zdv (s:=29)|exact zb1 (s:=29) rfl|exact zav (f:=ic) (fun _=>by rfl)|exact zaj (f:=ic) (fun _=>by rfl))
       rcases x with⟨⟨n⟩|⟨n⟩,hx⟩
       · have hx0 : n ≤ q := hx
         have hnl:n<c.b.l.length:=by omega
         by_cases hnq:n=q
         · have hx1 : n = q := hnq
           conv=>whnf
           repeat' ((first|refine zap (by(exact zdd (by simp;omega) hq) ) ?_|refine Rq.mk (by(first|rfl|((try simp only[rz]);omega))) ?_|refine Br.split (fun h=>?_) (fun h=>?_)<;>(try simp only[bz] at h)<;>try (exfalso;omega))<;>conv=>whnf)
           refine zai eRg zae [2,10,11,14,15,23,24,116,117,140,141] [3000] 500 (fun y:{w:Nat // w≤(za9 (shF tl) rows j).length}=>[(142,i64 y.1)]) (fun y=>[(3000,.arr 29 ((za9 (patI q tl) (za9 (shF tl) rows j) y.1).map Ins.cells))]) [] (fun y=>(za9 (shF tl) rows j).length+1 - y.1) (⟨0,Nat.zero_le _⟩) ?_
           conv=>whnf
           refine⟨?_,fun y=>?_⟩
           · conv => whnf
             (repeat' first|exact True.intro|apply And.intro|rfl|exact zb1 (s:=29) (by rw[zig])|exact zdv (s:=29)|exact zez (s:=2) rfl (by rfl)|exact zju (s:=2) (by rfl)|exact zav (sz:=1) (f:=ic) (fun _=>by rfl)|exact zaj (sz:=1) (f:=ic) (fun _=>by rfl))
           rcases y with⟨y,hy⟩
           have hyl:(za9 (patI q tl) (za9 (shF tl) rows j) y).length=(za9 (shF tl) rows j).length:=zbj (patI q tl) (za9 (shF tl) rows j);have hpat:∀h:y<(za9 (shF tl) rows j).length,((za9 (patI q tl) (za9 (shF tl) rows j) y)[((y:Int)).toNat]'(by rw[hyl];exact h)).op=16→((za9 (patI q tl) (za9 (shF tl) rows j) y)[((y:Int)).toNat]'(by rw[hyl];exact h)).p=(q:Int)→0≤((za9 (patI q tl) (za9 (shF tl) rows j) y)[((y:Int)).toNat]'(by rw[hyl];exact h)).n∧((za9 (patI q tl) (za9 (shF tl) rows j) y)[((y:Int)).toNat]'(by rw[hyl];exact h)).n.toNat<tl.length:=fun h=>by
            rw[zn1 h];exact hin0 _ (List.getElem_mem h)
           (try dsimp only at hy)
           conv=>whnf
           repeat' ((first|refine zap (by first|exact zbl (l:=za9 (patI q tl) (za9 (shF tl) rows j) y) (n:=(y:Int)) (by omega)|exact zdd (by simp;omega) hq) ?_|refine Rq.mk (b:=chk3 _ _ _ _ _ _) (by kernel_rfl) ?_|refine Rq.mk (by(first|rfl|((try simp only[rz]);(first|omega|(have hpa:=hpat (by omega);omega))))) ?_|refine Br.split (fun h=>?_) (fun h=>?_)<;>(try simp only[bz] at h)|refine Ok3.mk _ (za2 (by((have hpa:=hpat (by omega);omega)))) ?_|refine And.intro (a:=zaw _=true) (by kernel_rfl) (LzK.e ?_))<;>conv=>whnf)
           all_goals first
            | (refine ⟨⟨y + 1, by omega⟩, ?_, rfl, (by (dsimp only); omega)⟩
               conv=>whnf
               (repeat' first|exact True.intro|apply And.intro|rfl|exact zb1 (s:=29) (zlb (q:=q) (tl:=tl) (L:=(za9 (shF tl) rows j)) (j:=y) (by omega) (by omega) (congrArg Ins.cells (zu8 (by omega) (by omega)).symm))|exact zb1 (s:=29) (zla (q:=q) (tl:=tl) (L:=(za9 (shF tl) rows j)) (j:=y) (by omega) (by omega) (by omega))|exact zdv (s:=29)|exact zez (s:=2) rfl (by rfl)|exact zju (s:=2) (by rfl)|exact zav (sz:=1) (f:=ic) (fun _=>by rfl)|exact zaj (sz:=1) (f:=ic) (fun _=>by rfl)|(refine cw ?_ ?_ ?_<;>(try dsimp only)<;>omega)|exact congrArg (AV.int .i64) (by(try dsimp only);omega)))
            | (refine ⟨⟨.post (n + 1), (by first | exact ⟨by omega, by omega⟩ | (show n + 1 ≤ _; omega))⟩, _, FzS.z 3000 _ [(2, _), (10, _), (11, _), (14, _), (15, _), (23, _), (116, _), (117, _)] [(2, _), (1000, _), (8344, _), (8353, .arr 2 (zcp q tl c.b.l nb (n + 1)))] rfl ⟨⟨_, rfl, .inl rfl⟩, ⟨⟨_, rfl, .inl rfl⟩, ⟨⟨_, rfl, .inl rfl⟩, ⟨⟨_, rfl, .inl rfl⟩, ⟨⟨_, rfl, .inl rfl⟩, ⟨⟨_, rfl, .inl rfl⟩, ⟨⟨_, rfl, .inl rfl⟩, ⟨⟨_, rfl, .inl rfl⟩, trivial⟩⟩⟩⟩⟩⟩⟩⟩ ⟨⟨by decide, _, rfl, .inl rfl⟩, ⟨⟨by decide, _, rfl, .inl rfl⟩, ⟨⟨by decide, _, rfl, .inl rfl⟩, ⟨⟨by decide, _, rfl, yet hx1 hq (zpj (L := (za9 (shF tl) rows j).map (patI q tl)) (by rw [zfo (by omega : y = (za9 (shF tl) rows j).length)]) (by simp only [List.length_map, zbj] <;> omega)) hnb3⟩, trivial⟩⟩⟩⟩, ?_, rfl, (show _ - _ < _ - _ from (by simp only [B3.n]; omega))⟩
               conv=>whnf
               (repeat' first|exact True.intro|apply And.intro|rfl|exact zbz (s:=2) rfl|exact zd3 (s:=2)|exact zav (sz:=1) (f:=ic) (fun _=>by rfl)|exact zaj (sz:=1) (f:=ic) (fun _=>by rfl)|(refine cw ?_ ?_ ?_<;>(try dsimp only)<;>omega)|exact congrArg (AV.int .i64) (by(try dsimp only);omega)))
         · by_cases hins : c.b.l[n].ins.l = []
           · skip
             conv=>whnf
             repeat' ((first|(refine zar rfl (zii _ hins) ?_;rintro _ rfl;refine⟨_,rfl,?_⟩)|refine zap (by first|exact zde rfl (by simp only[zdc,zck];omega)|exact ze0 (by simp) (by omega) hnq ) ?_|refine Rq.mk (b:=chk3 _ _ _ _ _ _) (by kernel_rfl) ?_|refine Rq.mk (by(first|rfl|((try simp only[rz]);omega))) ?_|refine Br.split (fun h=>?_) (fun h=>?_)<;>(try simp only[bz] at h)<;>try (exfalso;omega)|refine And.intro (a:=zaw _=true) (by kernel_rfl) (LzK.e ?_))<;>conv=>whnf)
             refine zai eRg zae [2,10,11,14,15,23,116,117,141] [8353] 500 (fun y:Nat=>[(142,i64 (0:Int))]) (fun _=>[(8353,.arr 2 (preR q tl c.b.l kn 3000 ((rs.map Ins.cells).length+1) (n+1)))]) [] (fun y=>y) (0) ?_
             conv=>whnf
             refine⟨?_,fun y=>?_⟩
             · conv => whnf
               (repeat' first|exact True.intro|apply And.intro|rfl|exact zez (s:=2) (by rw[← zl1 hnl hnq (by rw[zhi hins])];congr 1;simp) (by rfl)|exact zju (s:=2) (by rfl)|exact zb1 (s:=29) rfl|exact zdv (s:=29)|exact zav (sz:=1) (f:=ic) (fun _=>by rfl)|exact zaj (sz:=1) (f:=ic) (fun _=>by rfl))
             conv=>whnf
             repeat' first
              | (refine Br.split (fun h=>?_) (fun h=>?_)<;>(try simp only[bz] at h)<;>first|(exfalso;omega)|(conv=>whnf))
             all_goals first
              | (refine ⟨⟨.pre (n + 1), (show n + 1 ≤ q by omega)⟩, _, FzS.r, ?_, rfl, (show _ - _ < _ - _ from (by simp only [B3.n]; omega))⟩
                 conv=>whnf
                 (repeat' first|exact True.intro|apply And.intro|rfl|exact zez (s:=2) rfl (by rfl)|exact zez (s:=2) (by rw[← zl1 hnl hnq (by rw[zhi hins])];congr 1;simp) (by rfl)|exact zju (s:=2) (by rfl)|exact zb1 (s:=29) rfl|exact zdv (s:=29)|exact zav (sz:=1) (f:=ic) (fun _=>by rfl)|exact zaj (sz:=1) (f:=ic) (fun _=>by rfl)|(refine cw ?_ ?_ ?_<;>(try dsimp only)<;>omega)|exact congrArg (AV.int .i64) (by(try dsimp only);omega)))
           · skip
             conv=>whnf
             repeat' ((first|refine zkh rfl (zmu _ hins (by have:=hlenall n (by omega);omega)) zpg rfl ?_|refine zap (by first|exact zde rfl (by simp only[zdc,zck];omega)|exact ze0 (by simp) (by omega) hnq ) ?_|refine Rq.mk (b:=chk3 _ _ _ _ _ _) (by kernel_rfl) ?_|refine Rq.mk (by(first|rfl|((try simp only[rz]);omega))) ?_|refine Br.split (fun h=>?_) (fun h=>?_)<;>(try simp only[bz] at h)<;>try (exfalso;omega)|refine And.intro (a:=zaw _=true) (by kernel_rfl) (LzK.e ?_))<;>conv=>whnf)
             refine zai eRg zae [2,10,11,14,15,23,24,116,117,140,141] [8353,28384] 500 (fun y:{w:Nat // w≤c.b.l[n].ins.l.length}=>[(142,i64 y.1)]) (fun y=>[(8353,.arr 2 ((preR q tl c.b.l kn 3000 ((rs.map Ins.cells).length+1) n).set n (ownR c.b.l[n].regs 28384 c.b.l[n].ins.l.length))),(28384,.arr 29 ((za9 (patI q tl) c.b.l[n].ins.l y.1).map Ins.cells))]) [] (fun y=>c.b.l[n].ins.l.length+1 - y.1) (⟨0,Nat.zero_le _⟩) ?_
             conv=>whnf
             refine⟨?_,fun y=>?_⟩
             · conv => whnf
               (repeat' first|exact True.intro|apply And.intro|rfl|exact zb1 (s:=29) (by rw[zig])|exact zdv (s:=29)|exact zb1 (s:=29) rfl|exact zu5 (s:=2) (by first|rfl|(congr 1;simp)) (by rfl) (by rfl)|exact zzn (s:=2) (by rfl) (by rfl)|exact zav (sz:=1) (f:=ic) (fun _=>by rfl)|exact zaj (sz:=1) (f:=ic) (fun _=>by rfl))
             rcases y with⟨y,hy⟩
             have hln:=hlenall n hnl;have hyl:(za9 (patI q tl) c.b.l[n].ins.l y).length=c.b.l[n].ins.l.length:=zbj (patI q tl) c.b.l[n].ins.l;have hpat:∀h:y<c.b.l[n].ins.l.length,((za9 (patI q tl) c.b.l[n].ins.l y)[((y:Int)).toNat]'(by rw[hyl];exact h)).op=16→((za9 (patI q tl) c.b.l[n].ins.l y)[((y:Int)).toNat]'(by rw[hyl];exact h)).p=(q:Int)→0≤((za9 (patI q tl) c.b.l[n].ins.l y)[((y:Int)).toNat]'(by rw[hyl];exact h)).n∧((za9 (patI q tl) c.b.l[n].ins.l y)[((y:Int)).toNat]'(by rw[hyl];exact h)).n.toNat<tl.length:=fun h=>by
              rw[zn1 h];exact hinb n hnl _ (List.getElem_mem h)
             (try dsimp only at hy)
             conv=>whnf
             repeat' ((first|refine zap (by first|exact zbl (l:=za9 (patI q tl) c.b.l[n].ins.l y) (n:=(y:Int)) (by omega)|exact zde (by simp) (by simp only[zdc,zck];omega) ) ?_|refine Rq.mk (b:=chk3 _ _ _ _ _ _) (by kernel_rfl) ?_|refine Rq.mk (by(first|rfl|((try simp only[rz]);(first|omega|(have hpa:=hpat (by omega);omega))))) ?_|refine Br.split (fun h=>?_) (fun h=>?_)<;>(try simp only[bz] at h)|refine Ok3.mk _ (za2 (by((have hpa:=hpat (by omega);omega)))) ?_|refine And.intro (a:=zaw _=true) (by kernel_rfl) (LzK.e ?_))<;>conv=>whnf)
             all_goals first
              | (refine ⟨⟨y + 1, by omega⟩, ?_, rfl, (by (dsimp only); omega)⟩
                 conv=>whnf
                 (repeat' first|exact True.intro|apply And.intro|rfl|exact zb1 (s:=29) (zlb (q:=q) (tl:=tl) (L:=c.b.l[n].ins.l) (j:=y) (by omega) (by omega) (congrArg Ins.cells (zu8 (by omega) (by omega)).symm))|exact zb1 (s:=29) (zla (q:=q) (tl:=tl) (L:=c.b.l[n].ins.l) (j:=y) (by omega) (by omega) (by omega))|exact zdv (s:=29)|exact zb1 (s:=29) rfl|exact zu5 (s:=2) (by first|rfl|(congr 1;simp)) (by rfl) (by rfl)|exact zzn (s:=2) (by rfl) (by rfl)|exact zav (sz:=1) (f:=ic) (fun _=>by rfl)|exact zaj (sz:=1) (f:=ic) (fun _=>by rfl)|(refine cw ?_ ?_ ?_<;>(try dsimp only)<;>omega)|exact congrArg (AV.int .i64) (by(try dsimp only);omega)))
              | (refine ⟨⟨.pre (n + 1), (show n + 1 ≤ q by omega)⟩, _, FzS.z 28384 _ [(2, _), (10, _), (11, _), (14, _), (15, _), (23, _), (116, _), (117, _)] [(2, _), (1000, _), (8344, _), (8353, .arr 2 (preR q tl c.b.l kn 3000 ((rs.map Ins.cells).length + 1) (n + 1))), (3000, _)] rfl ⟨⟨_, rfl, .inl rfl⟩, ⟨⟨_, rfl, .inl rfl⟩, ⟨⟨_, rfl, .inl rfl⟩, ⟨⟨_, rfl, .inl rfl⟩, ⟨⟨_, rfl, .inl rfl⟩, ⟨⟨_, rfl, .inl rfl⟩, ⟨⟨_, rfl, .inl rfl⟩, ⟨⟨_, rfl, .inl rfl⟩, trivial⟩⟩⟩⟩⟩⟩⟩⟩ ⟨⟨by decide, _, rfl, .inl rfl⟩, ⟨⟨by decide, _, rfl, .inl rfl⟩, ⟨⟨by decide, _, rfl, .inl rfl⟩, ⟨⟨by decide, _, rfl, yjd hnl hnq rfl (zpj (L := c.b.l[n].ins.l.map (patI q tl)) (by rw [zfo (by omega : y = c.b.l[n].ins.l.length)]) (by simp only [List.length_map, zbj] <;> omega))⟩, ⟨⟨by decide, _, rfl, .inl rfl⟩, trivial⟩⟩⟩⟩⟩, ?_, rfl, (show _ - _ < _ - _ from (by simp only [B3.n]; omega))⟩
                 conv=>whnf
                 (repeat' first|exact True.intro|apply And.intro|rfl|exact zez (s:=2) rfl (by rfl)|exact zju (s:=2) (by rfl)|exact zb1 (s:=29) rfl|exact zdv (s:=29)|exact zav (sz:=1) (f:=ic) (fun _=>by rfl)|exact zaj (sz:=1) (f:=ic) (fun _=>by rfl)|(refine cw ?_ ?_ ?_<;>(try dsimp only)<;>omega)|exact congrArg (AV.int .i64) (by(try dsimp only);omega)))
       · have hx0 : q < n ∧ n ≤ c.b.l.length := hx
         have hnq:n≠q:=by omega
         by_cases hnl:n<c.b.l.length
         · by_cases hins : c.b.l[n].ins.l = []
           · skip
             conv=>whnf
             repeat' ((first|(refine zar rfl (zii _ hins) ?_;rintro _ rfl;refine⟨_,rfl,?_⟩)|refine zap (by first|exact zde rfl (by simp only[zdc,zck];omega)|exact zd6 (by simp) (by omega) (by omega)) ?_|refine Rq.mk (b:=chk3 _ _ _ _ _ _) (by kernel_rfl) ?_|refine Rq.mk (by(first|rfl|((try simp only[rz]);omega))) ?_|refine Br.split (fun h=>?_) (fun h=>?_)<;>(try simp only[bz] at h)<;>try (exfalso;omega)|refine And.intro (a:=zaw _=true) (by kernel_rfl) (LzK.e ?_))<;>conv=>whnf)
             refine zai eRg zae [2,10,11,14,15,23,116,117,141] [8353] 500 (fun y:Nat=>[(142,i64 (0:Int))]) (fun _=>[(8353,.arr 2 (zcp q tl c.b.l nb (n+1)))]) [] (fun y=>y) (0) ?_
             conv=>whnf
             refine⟨?_,fun y=>?_⟩
             · conv => whnf
               (repeat' first|exact True.intro|apply And.intro|rfl|exact zbz (s:=2) (by rw[← zfg hnl hnq (by rw[zhi hins])];congr 1;simp)|exact zd3 (s:=2)|exact zav (sz:=1) (f:=ic) (fun _=>by rfl)|exact zaj (sz:=1) (f:=ic) (fun _=>by rfl))
             conv=>whnf
             repeat' first
              | (refine Br.split (fun h=>?_) (fun h=>?_)<;>(try simp only[bz] at h)<;>first|(exfalso;omega)|(conv=>whnf))
             all_goals first
              | (refine ⟨⟨.post (n + 1), (by first | exact ⟨by omega, by omega⟩ | (show n + 1 ≤ _; omega))⟩, _, FzS.r, ?_, rfl, (show _ - _ < _ - _ from (by simp only [B3.n]; omega))⟩
                 conv=>whnf
                 (repeat' first|exact True.intro|apply And.intro|rfl|exact zbz (s:=2) rfl|exact zbz (s:=2) (by rw[← zfg hnl hnq (by rw[zhi hins])];congr 1;simp)|exact zd3 (s:=2)|exact zav (sz:=1) (f:=ic) (fun _=>by rfl)|exact zaj (sz:=1) (f:=ic) (fun _=>by rfl)|(refine cw ?_ ?_ ?_<;>(try dsimp only)<;>omega)|exact congrArg (AV.int .i64) (by(try dsimp only);omega)))
           · skip
             conv=>whnf
             repeat' ((first|refine zkh rfl (zmu _ hins (by have:=hlenall n (by omega);omega)) zpg rfl ?_|refine zap (by first|exact zde rfl (by simp only[zdc,zck];omega)|exact zd6 (by simp) (by omega) (by omega)) ?_|refine Rq.mk (b:=chk3 _ _ _ _ _ _) (by kernel_rfl) ?_|refine Rq.mk (by(first|rfl|((try simp only[rz]);omega))) ?_|refine Br.split (fun h=>?_) (fun h=>?_)<;>(try simp only[bz] at h)<;>try (exfalso;omega)|refine And.intro (a:=zaw _=true) (by kernel_rfl) (LzK.e ?_))<;>conv=>whnf)
             refine zai eRg zae [2,10,11,14,15,23,24,116,117,140,141] [8353,28384] 500 (fun y:{w:Nat // w≤c.b.l[n].ins.l.length}=>[(142,i64 y.1)]) (fun y=>[(8353,.arr 2 ((zcp q tl c.b.l nb n).set n (ownR c.b.l[n].regs 28384 c.b.l[n].ins.l.length))),(28384,.arr 29 ((za9 (patI q tl) c.b.l[n].ins.l y.1).map Ins.cells))]) [] (fun y=>c.b.l[n].ins.l.length+1 - y.1) (⟨0,Nat.zero_le _⟩) ?_
             conv=>whnf
             refine⟨?_,fun y=>?_⟩
             · conv => whnf
               (repeat' first|exact True.intro|apply And.intro|rfl|exact zb1 (s:=29) (by rw[zig])|exact zdv (s:=29)|exact ziv (s:=2) (by first|rfl|(congr 1;simp)) (by rfl)|exact zk8 (s:=2) (by rfl)|exact zav (sz:=1) (f:=ic) (fun _=>by rfl)|exact zaj (sz:=1) (f:=ic) (fun _=>by rfl))
             rcases y with⟨y,hy⟩
             have hln:=hlenall n hnl;have hyl:(za9 (patI q tl) c.b.l[n].ins.l y).length=c.b.l[n].ins.l.length:=zbj (patI q tl) c.b.l[n].ins.l;have hpat:∀h:y<c.b.l[n].ins.l.length,((za9 (patI q tl) c.b.l[n].ins.l y)[((y:Int)).toNat]'(by rw[hyl];exact h)).op=16→((za9 (patI q tl) c.b.l[n].ins.l y)[((y:Int)).toNat]'(by rw[hyl];exact h)).p=(q:Int)→0≤((za9 (patI q tl) c.b.l[n].ins.l y)[((y:Int)).toNat]'(by rw[hyl];exact h)).n∧((za9 (patI q tl) c.b.l[n].ins.l y)[((y:Int)).toNat]'(by rw[hyl];exact h)).n.toNat<tl.length:=fun h=>by
              rw[zn1 h];exact hinb n hnl _ (List.getElem_mem h)
             (try dsimp only at hy)
             conv=>whnf
             repeat' ((first|refine zap (by first|exact zbl (l:=za9 (patI q tl) c.b.l[n].ins.l y) (n:=(y:Int)) (by omega)|exact zde (by simp) (by simp only[zdc,zck];omega) ) ?_|refine Rq.mk (b:=chk3 _ _ _ _ _ _) (by kernel_rfl) ?_|refine Rq.mk (by(first|rfl|((try simp only[rz]);(first|omega|(have hpa:=hpat (by omega);omega))))) ?_|refine Br.split (fun h=>?_) (fun h=>?_)<;>(try simp only[bz] at h)|refine Ok3.mk _ (za2 (by((have hpa:=hpat (by omega);omega)))) ?_|refine And.intro (a:=zaw _=true) (by kernel_rfl) (LzK.e ?_))<;>conv=>whnf)
             all_goals first
              | (refine ⟨⟨y + 1, by omega⟩, ?_, rfl, (by (dsimp only); omega)⟩
                 conv=>whnf
                 (repeat' first|exact True.intro|apply And.intro|rfl|exact zb1 (s:=29) (zlb (q:=q) (tl:=tl) (L:=c.b.l[n].ins.l) (j:=y) (by omega) (by omega) (congrArg Ins.cells (zu8 (by omega) (by omega)).symm))|exact zb1 (s:=29) (zla (q:=q) (tl:=tl) (L:=c.b.l[n].ins.l) (j:=y) (by omega) (by omega) (by omega))|exact zdv (s:=29)|exact ziv (s:=2) (by first|rfl|(congr 1;simp)) (by rfl)|exact zk8 (s:=2) (by rfl)|exact zav (sz:=1) (f:=ic) (fun _=>by rfl)|exact zaj (sz:=1) (f:=ic) (fun _=>by rfl)|(refine cw ?_ ?_ ?_<;>(try dsimp only)<;>omega)|exact congrArg (AV.int .i64) (by(try dsimp only);omega)))
              | (refine ⟨⟨.post (n + 1), (by first | exact ⟨by omega, by omega⟩ | (show n + 1 ≤ _; omega))⟩, _, FzS.z 28384 _ [(2, _), (10, _), (11, _), (14, _), (15, _), (23, _), (116, _), (117, _)] [(2, _), (1000, _), (8344, _), (8353, .arr 2 (zcp q tl c.b.l nb (n + 1)))] rfl ⟨⟨_, rfl, .inl rfl⟩, ⟨⟨_, rfl, .inl rfl⟩, ⟨⟨_, rfl, .inl rfl⟩, ⟨⟨_, rfl, .inl rfl⟩, ⟨⟨_, rfl, .inl rfl⟩, ⟨⟨_, rfl, .inl rfl⟩, ⟨⟨_, rfl, .inl rfl⟩, ⟨⟨_, rfl, .inl rfl⟩, trivial⟩⟩⟩⟩⟩⟩⟩⟩ ⟨⟨by decide, _, rfl, .inl rfl⟩, ⟨⟨by decide, _, rfl, .inl rfl⟩, ⟨⟨by decide, _, rfl, .inl rfl⟩, ⟨⟨by decide, _, rfl, zv2 hnl hnq rfl (zpj (L := c.b.l[n].ins.l.map (patI q tl)) (by rw [zfo (by omega : y = c.b.l[n].ins.l.length)]) (by simp only [List.length_map, zbj] <;> omega))⟩, trivial⟩⟩⟩⟩, ?_, rfl, (show _ - _ < _ - _ from (by simp only [B3.n]; omega))⟩
                 conv=>whnf
                 (repeat' first|exact True.intro|apply And.intro|rfl|exact zbz (s:=2) rfl|exact zd3 (s:=2)|exact zav (sz:=1) (f:=ic) (fun _=>by rfl)|exact zaj (sz:=1) (f:=ic) (fun _=>by rfl)|(refine cw ?_ ?_ ?_<;>(try dsimp only)<;>omega)|exact congrArg (AV.int .i64) (by(try dsimp only);omega)))
         · skip
           conv=>whnf
           repeat' first
            | (refine Br.split (fun h=>?_) (fun h=>?_)<;>(try simp only[bz] at h)<;>first|(exfalso;omega)|(conv=>whnf))
           have hnn:n=c.b.l.length:=by omega
           generalize hg2:snap _ 20 _=rr
           obtain rfl:=hg2.symm.trans (zd5 (n:=19) (zd2 (n:=18) (zab rfl (zab rfl (zab rfl (zab rfl (zab rfl (zab rfl (zab (zbk (f:=Bd.cells) (l:=(spC c q tl nb).b.l) (n:=17) (fun _=>rfl) rfl (zu6 hnn) (by simp[spC])) rfl)))))))) (zbk (f:=ic) (l:=o::os) (n:=18) (fun _=>rfl) rfl rfl (by simp)))
           exact⟨spC c q tl nb,_,o::os,rfl,Told.r,zyu hnb2 (by rw[dif_pos hq,hlen2];exact hrw1) (fun i hi h1 _=>hg0 i hi h1),hof1⟩
theorem zsv (c:Cd)(k:Int)(q n:Nat)(h:SpH c k q n) :
 DPR 46 [c.av,i64 k,i64 q,zaq (zby n),.bool true] (fun ae=>∃(out:Cd) (v:AV) (of:List Int),ae = .ret (.tup [out.av,v])∧Told v (zaq of)∧SpilledP c q out∧of.length≤4 * (c.b.l[q]'h.hq).ins.l.length):=by
 rcases Nat.eq_zero_or_pos (c.b.l[q]'h.hq).ins.l.length with h0|h0
 · exact spilled46_n c k q n h fun _=>h0
 · exact spilled46_s c k q n h fun _=>h0
theorem zsw (c:Cd)(k:Int)(q n:Nat)(h:SpH c k q n) :
 DPR 46 [c.av,i64 k,i64 q,zaq (zby n),.bool true] (fun ae=>∃(out:Cd) (of:List Int),ae = .ret (.tup [out.av,zaq of])∧SpilledP c q out∧of.length≤4 * (c.b.l[q]'h.hq).ins.l.length):=
 (zsv c k q n h).told (by
  rintro _ ⟨out,v,of,rfl,ht,h1,h2⟩
  exact⟨_,.tup [out.av,zaq of],rfl,Told.tup ⟨.r,ht,trivial⟩,out,of,rfl,h1,h2⟩)
end Go.Ago
