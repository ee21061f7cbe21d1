/-
  Part 47: lemmas, each with its own conditions.
-/
import Derived.Test.YthaolifcglpkdaaGreatDoorA44
import Derived.Test.YthaolifcglpkdaaGreatDoorA46
set_option maxRecDepth 100000
set_option maxHeartbeats 0
set_option linter.all false
section
namespace Go.Ago
open Go.Proofs
attribute [local irreducible] ltI leI eqI eqS shrI wr inB mmI comp DC DP DW DV
attribute [local irreducible] ckP ct InR PLc zev zeu zdo zcf ckC zb7 entN zbh za3 bitW EntP upR zby
inductive SpX|z|s (m:Nat) (o:Int) (os:List Int) (t:Int) (ts:List Int) (r:Ins) (rs:List Ins)
structure SpS (is:List Ins)(m:Nat)(of tg:List Int)(rows:List Ins):Prop where
 ml:m≤is.length
 ofl:of.length≤4 * m
 tol:tg.length=m
 to0:∀x∈tg,0≤x
 rl:rows.length≤4 * m
 old:∀y∈rows,OldI is y
def SpX.ok (is:List Ins):SpX→Prop
 | .z=>True
 | .s m o os t ts r rs=>SpS is m (o::os) (t::ts) (r::rs)
def SpX.m:SpX→Nat
 | .z=>0
 | .s m _ _ _ _ _ _=>m
theorem SpS.start (is:List Ins):SpS is 0 [] [] []:=⟨Nat.zero_le _,by simp,rfl,(fun _ h=>by cases h),by simp,(fun _ h=>by cases h)⟩
theorem yks {is:List Ins}{i:Ins}(hi:i∈is){out:List Ins}{n:Int}(h:BetP i out n):∀y∈out,OldI is y:=by
 obtain⟨pre,x,post,rfl,_,hx,h1,h2,_⟩:=h;intro y hy;rcases List.mem_append.1 hy with hy|hy
 · exact .inl (h1 y hy)
 · rcases List.mem_cons.1 hy with rfl | hy
   · exact .inr ⟨i,hi,hx⟩
   · exact .inl (h2 y hy)
theorem SpS.next {is:List Ins}{m:Nat}{of tg of':List Int}{rows out:List Ins}(h:SpS is m of tg rows)(hm:m<is.length){n:Int}(hb:BetP is[m] out n)(h1:of'.length=of.length+out.length){x:Int}(hx:0≤x):SpS is (m+1) of' (tg++[x]) (rows++out):=by
 have h4:out.length≤4:=by obtain⟨_,_,_,_,_,_,_,_,h⟩:=hb;exact h
 have:=h.ofl;have:=h.rl;have:=h.tol;refine⟨hm,by omega,by rw[List.length_append,h.tol];rfl,fun y hy=>?_,by rw[List.length_append];omega,fun y hy=>?_⟩
 · rcases List.mem_append.1 hy with hy | hy
   · exact h.to0 y hy
   · rw[List.mem_singleton.1 hy];exact hx
 · rcases List.mem_append.1 hy with hy | hy
   · exact h.old y hy
   · exact yks (List.getElem_mem hm) hb y hy
theorem ycu {i:Ins}{out:List Ins}{n:Int}(h:BetP i out n):1≤out.length∧out.length≤4:=by
 obtain⟨pre,x,post,rfl,_,_,_,_,h⟩:=h;exact⟨by simp;omega,h⟩
theorem zwe {i:Ins}{out:List Ins}{n:Int}(h:BetP i out n):∃y ys,out=y::ys:=by
 have:=(ycu h).1;rcases out with _|⟨y,ys⟩
 · simp at this
 · exact⟨y,ys,rfl⟩
theorem zdw {α:Type}{f:α→List AV}{ρ:Nat→Nat}(hf:∀x,(f x).map (AV.r1 ρ)=f x){y:α}{acc ys:List α}{n:Nat}(h:n=acc.length+1) :
 List.take n (List.drop 0 (f y::acc.map f))++ys.map f=(f y::(acc++ys).map f).map (List.map (AV.r1 ρ)):=by
 subst h;have h1:List.take acc.length (acc.map f)=acc.map f:=List.take_of_length_le (by simp)
 simp[hf,Function.comp_def,h1]
theorem zxn {α:Type}{f:α→List AV}{y t:α}{acc:List α}{new:List (List AV)}(hn:new=[f t]){n:Nat}(h:n=acc.length+1):List.take n (List.drop 0 (f y::acc.map f))++new=(y::(acc++[t])).map f:=by
 subst hn;subst h;have h1:List.take acc.length (acc.map f)=acc.map f:=List.take_of_length_le (by simp)
 simp[h1]
theorem ykx {α:Type}{f:α→List AV}{a:Nat}{y t:α}{acc:List α}{new:List (List AV)}(hn:new=[f t])(h:a=acc.length+1):a+new.length=(y::(acc++[t])).length:=by
 subst hn;subst h;simp
theorem zb1 {ρ:Nat→Nat}{s:Nat}{l:List Ins}{es:List (List AV)}(h:es=l.map Ins.cells):AObj.arr s es=AObj.ren ρ (.arr s (l.map Ins.cells)):=by
 subst h;simp only[AObj.ren,List.map_map];congr 1
theorem zdv {n s:Nat}{l:List Ins}:AObj.lt n (.arr s (l.map Ins.cells)):=by
 show(List.all _ _)=true;rw[List.all_map,List.all_eq_true];intro x _;rfl
theorem yjf {nm sz len n:Nat}{rows:List (List AV)}{l:List Int}(h:rows=l.map ic)(hl:len=l.length)(hs:sz=1):snap (.put nm (some (.arr sz rows)) .nil) (n+2) (.slc nm 0 len sz)=some (.rsl 1 (l.map ic)):=by
 subst h;subst hl;subst hs;exact zbk (f:=ic) (l:=l) (n:=n+1) (fun _=>rfl) (by rw[Tr.get,Nat.beq_refl];rfl) rfl rfl
abbrev shF (tl:List Int):Ins→Ins:=fun i=>zew i tl
theorem ydq {tl:List Int}{rows:List Ins}{r:Ins}{rs:List Ins}{ρ:Nat→Nat}(h:r::rs=rows):AObj.arr 29 (r.cells::rs.map Ins.cells)=AObj.ren ρ (.arr 29 ((za9 (shF tl) rows 0).map Ins.cells)):=by
 subst h;rw[zig];exact zav (f:=Ins.cells) (fun _=>rfl)
theorem ynp {is:List Ins}{n:Int}{tl:List Int}(hv:∀i∈is,InsV n is.length i)(h0:∀x∈tl,0≤x)(hn:tl.length=is.length+1){i:Ins}(ho:OldI is i){x:Int}(hx:x∈zbc i):ShOK tl x:=by
 have key:∀x:Int,0≤x∧x≤(is.length:Int)→ShOK tl x:=fun x hx=>⟨hx.1,by omega,h0 _ (List.getElem_mem _)⟩
 rcases ho with ho|⟨i0,h1,h2,h3,h4,h5⟩
 · unfold zbc at hx
   rw[if_neg (by omega),if_neg (by omega)] at hx
   cases hx
 · refine key x ((hv i0 h1).t x ?_)
   unfold zbc at hx ⊢;rw[h2,h4,h5] at hx;exact hx
theorem ym5 {tl:List Int}{rows:List Ins}(h:∀i∈rows,∀x∈zbc i,ShOK tl x){j:Nat}(hj:j<rows.length){i:Ins}(hi:i=rows[j]):∀x∈zbc i,ShOK tl x:=by
 subst hi;exact h _ (List.getElem_mem hj)
theorem yh3 {tl:List Int}{rows:List Ins}{j:Nat}(h:j<rows.length):((za9 (shF tl) rows j).map Ins.cells).set (0+((j:Nat):Int).toNat) (zew ((za9 (shF tl) rows j)[((j:Int)).toNat]'(by rw[zbj];simpa using h)) tl).cells=(za9 (shF tl) rows (j+1)).map Ins.cells:=by
 have e:(za9 (shF tl) rows j)[((j:Int)).toNat]'(by rw[zbj];simpa using h)=rows[j]:=zfn h (by rw[zbj];exact h)
 rw[e,Nat.zero_add,Int.toNat_natCast,← List.map_set,zfm h]
theorem zur {α:Type}{f:α→List AV}(h:∀x,((f x).all AV.one)=true){l:List α}:((l.map f).all fun e=>e.all AV.one)=true:=
 List.all_eq_true.2 fun e he=>by obtain⟨x,_,rfl⟩:=List.mem_map.1 he;exact h x
theorem ykw (B:Nat){add by_:Nat}(hb:by_=B)(hl:add≤10000)(h4:10000 * (B+1)≤140737488355328):Nat.ble (add * (by_+1)) 140737488355328=true:=by
 subst hb;exact Nat.ble_eq_true_of_le (Nat.le_trans (Nat.mul_le_mul_right _ hl) h4)
theorem ykv (B:Nat){i len el add by_:Nat}(h3:i+len≤el)(hb:by_=B)(hl:len+add≤10000)(h4:10000 * (B+1)≤140737488355328) :
 (Nat.ble (i+len) el && Nat.ble ((len+add) * (by_+1)) 140737488355328)=true:=by
 subst hb;rw[Nat.ble_eq_true_of_le h3,Nat.ble_eq_true_of_le (Nat.le_trans (Nat.mul_le_mul_right _ hl) h4)];rfl
inductive B3|pre (n:Nat)|post (n:Nat)
def B3.ok (q len:Nat):B3→Prop
 | .pre n=>n≤q
 | .post n=>q<n∧n≤len
def B3.n:B3→Nat
 | .pre n=>n
 | .post n=>n
theorem zhi {q:Nat}{tl:List Int}{b:Bd}(h:b.ins.l=[]):(patB q tl b).cells=[i64 b.regs,.rsl 29 []]:=by show[i64 b.regs,.rsl 29 ((b.ins.l.map _).map Ins.cells)]=_;rw[h];rfl
theorem zu6 {q:Nat}{tl:List Int}{l:List Bd}{nb:Bd}{n:Nat}(h:n=l.length):zcp q tl l nb n=((l.map (patB q tl)).set q nb).map Bd.cells:=by rw[zcp,zfo h]
theorem zw5 {q:Nat}{tl:List Int}{l:List Bd}{nb:Bd}{e:List AV}(h:e=nb.cells):(l.map Bd.cells).set (0+((q:Int)).toNat) e=zcp q tl l nb 0:=by subst h;simp[zcp,zig]
theorem zzr {q:Nat}{tl:List Int}{l:List Bd}{nb:Bd}{n m:Nat}(hm:m=q)(h:q<l.length){e:List AV}(he:nb.cells=e):(zcp q tl l nb n)[m]? = some e:=by
 subst hm;subst he;show(List.map _ _)[_]? = _;rw[List.getElem?_map,List.getElem?_set_self (by rw[zbj];exact h)]
 rfl
theorem zzq {q:Nat}{tl:List Int}{l:List Bd}{nb:Bd}{n:Nat}(h:n<l.length)(hn:n=q):zcp q tl l nb n=zcp q tl l nb (n+1):=by
 subst hn;show List.map _ _=List.map _ _;rw[zob h]
def B3.okz (len:Nat):B3→Prop
 | .pre _=>False
 | .post n=>n≤len
theorem yet {q n:Nat}{tl:List Int}{l:List Bd}{kn:Int}{k len:Nat}{nb:Bd}{nm:Nat}{o:AObj}{L:List Ins}(hn:n=q)(h:q<l.length)(hf:FrzC nm o (.slc k 0 len 29) (.rsl 29 (L.map Ins.cells)))(hb:nb.cells=[i64 kn,.rsl 29 (L.map Ins.cells)]) :
 FrzO nm o (.arr 2 (preR q tl l kn k len n)) (.arr 2 (zcp q tl l nb (n+1))):=by
 subst hn;exact yje h hf hb
theorem zii (l:List Ins)(h:l=[]):DPR 19 [zgs l] (fun ae=>ae = .ret (.rsl 29 [])):=by subst h;exact ybx
structure SpH (c:Cd)(k:Int)(q n:Nat):Prop where
 hq:q<c.b.l.length
 few:c.b.l.length≤100
 hk:4≤k∧k≤4000
 hn:n≤64
 rg:c.b.l[q].regs=(n:Int)
 len:c.b.l[q].ins.l.length≤1000
 iv:∀i∈c.b.l[q].ins.l,InsV (n:Int) c.b.l[q].ins.l.length i
 lst:∀i∈c.b.l[q].ins.l,i.l.l.length≤40
 gto:zsl c (q:Int) c.b.l[q].ins.l.length
 all:∀b∈c.b.l,b.ins.l.length≤10000
theorem InsV.hi {n:Nat}{m:Nat}{i:Ins}(h:InsV (n:Int) m i):i.a<n∧i.b<n∧i.d<n∧∀r∈i.l.l,r<n:=
 ⟨h.a.elim (fun e=>by omega) (·.2),h.b.elim (fun e=>by omega) (·.2),h.d.elim (fun e=>by omega) (·.2),fun r hr=>(h.l r hr).2⟩
theorem zm3 (i:Ins)(k:Int)(n:Nat)(hk:4≤k∧k<100000)(hn:n≤1000)(hl40:i.l.l.length≤40)(hr:i.a<n∧i.b<n∧i.d<n∧∀r∈i.l.l,r<n) :
 DPR 91 [i.av,i64 k,.fn (.func 89) [] [.rptr [zaq (zby n)]],.bool true] (fun ae=>∃out at_,ae = .ret (.tup [zgs out,i64 at_])∧BetP i out at_):=by
 refine(ztz i k n hk hn hl40 hr).told ?_
 rintro _ ⟨rows,at_,rfl,out,hb,ht⟩
 exact⟨_,.tup [zgs out,i64 at_],rfl,Told.tup ⟨Told.rows ht,.r,trivial⟩,out,at_,rfl,hb⟩
attribute [local irreducible] preR zcp za9 patI patB
theorem spilled46_n (c:Cd)(k:Int)(q n:Nat)(h:SpH c k q n)(h0:∀hq:q<c.b.l.length,c.b.l[q].ins.l.length=0) :
 DPR 46 [c.av,i64 k,i64 q,zaq (zby n),.bool true] (fun ae=>∃(out:Cd) (v:AV) (of:List Int),ae = .ret (.tup [out.av,v])∧Told v (zaq of)∧SpilledP c q out∧of.length≤4 * (c.b.l[q]'h.hq).ins.l.length):=by
 obtain⟨hq,h70,hk,hn,hrg,hlen,hiv,hlst,hgto,hall⟩:=h;have hz:=h0 hq;have hcl:=c.b.h;have hne:c.b.l≠[]:=fun e=>by rw[e] at hq;simp at hq
 refine zaf eRg zae Tryz.func46 rfl (by decide) rfl rfl ?_
 conv=>whnf
 repeat' ((first|refine Ok3.mk _ (zam (l:=c.b.l) (i:=q) hq) ?_|refine Rq.mk (by(first|rfl|((try simp only[rz]);omega))) ?_)<;>conv=>whnf)
 generalize hkn:wr .i64 (k+(c.b.l[q]).regs)=kn
 refine zoq 1 (.arr 1 [[zaq (zby n)]]) [(1,_),(2,_),(4,_),(5,_),(10,_),(11,_),(12,(.fn (.func 89) [] [.rptr [zaq (zby n)]])),(13,_),(42,_),(43,_),(44,_),(14,_),(15,_)] [(0,_),(2,_),(15,_)] rfl ⟨⟨_,rfl,.inl rfl⟩,⟨⟨_,rfl,.inl rfl⟩,⟨⟨_,rfl,.inl rfl⟩,⟨⟨_,rfl,.inl rfl⟩,⟨⟨_,rfl,.inl rfl⟩,⟨⟨_,rfl,.inl rfl⟩,⟨⟨_,rfl,.inr rfl⟩,⟨⟨_,rfl,.inl rfl⟩,⟨⟨_,rfl,.inl rfl⟩,⟨⟨_,rfl,.inl rfl⟩,⟨⟨_,rfl,.inl rfl⟩,⟨⟨_,rfl,.inl rfl⟩,⟨⟨_,rfl,.inl rfl⟩,trivial⟩⟩⟩⟩⟩⟩⟩⟩⟩⟩⟩⟩⟩ ⟨⟨by decide,_,rfl,.inl rfl⟩,⟨⟨by decide,_,rfl,.inl rfl⟩,⟨⟨by decide,_,rfl,.inl rfl⟩,trivial⟩⟩⟩ ?_
 refine zai eRg zae [1, 2, 4, 5, 10, 11, 12, 13, 42, 43] [15] 8000 (fun x:{x:SpX // x.ok c.b.l[q].ins.l}=>match x.1 with
  | .z=>[(44,i64 ((0:Nat):Int)),(14,.nils),(15,.nils)]
  | .s m o os t ts r rs => [(44, i64 m), (14, .slc 1000 0 ((os.map ic).length + 1) 1), (15, .slc 2000 0 ((ts.map ic).length + 1) 1)]) (fun x=>match x.1 with
  | .z=>[(15,.arr 2 [[i64 kn,.nils]])]
  | .s m o os t ts r rs=>[(15,.arr 2 [[i64 kn,.slc 3000 0 ((rs.map Ins.cells).length+1) 29]]),(1000,.arr 1 (ic o::os.map ic)),(2000,.arr 1 (ic t::ts.map ic)),(3000,.arr 29 (r.cells::rs.map Ins.cells))]) [(1000,.slot 14),(2000,.slot 15),(3000,.cell 15 1)] (fun x=>c.b.l[q].ins.l.length+1 - x.1.m) (⟨.z,trivial⟩) ?_
 conv=>whnf
 refine⟨?_,fun x=>?_⟩
 · conv => whnf
   (repeat' first|exact True.intro|apply And.intro|rfl)
 rcases x with⟨_|⟨m,o,os,t,ts,r,rs⟩,hx⟩
 · have hx0 := SpS.start c.b.l[q].ins.l
   have hmb:0≤c.b.l[q].ins.l.length:=Nat.zero_le _
   conv=>whnf
   repeat' ((first|refine Br.f (b:=Nat.beq _ _) rfl ?_|refine Ok3.mk _ (zam (l:=c.b.l[q].ins.l) (i:=0) (by omega)) ?_|refine Rq.mk (by(first|rfl|((try simp only[rz]);omega))) ?_|refine Br.split (fun h=>?_) (fun h=>?_)<;>(try simp only[bz] at h)|(refine zaa rfl (zm3 (c.b.l[q].ins.l[0]'(by omega)) k n ⟨hk.1,by omega⟩ (by omega) (hlst _ (List.getElem_mem _)) (hiv _ (List.getElem_mem _)).hi) ?_;rintro _ ⟨out,at_,rfl,hb⟩;obtain⟨y0,ys,rfl⟩:=zwe hb))<;>conv=>whnf)
   · exfalso;omega
   · have hme : c.b.l[q].ins.l = [] := List.eq_nil_of_length_eq_zero (by omega)
     refine zoq 8033 _ [(2,_),(5,_),(10,_),(11,_),(13,_),(14,_),(15,.rsl 1 ([(0:Int)].map ic)),(92,_),(93,_),(94,_)] [(0,_),(2,_),(15,_)] rfl ⟨⟨_,rfl,.inl rfl⟩,⟨⟨_,rfl,.inl rfl⟩,⟨⟨_,rfl,.inl rfl⟩,⟨⟨_,rfl,.inl rfl⟩,⟨⟨_,rfl,.inl rfl⟩,⟨⟨_,rfl,.inl rfl⟩,⟨⟨_,rfl,.inr rfl⟩,⟨⟨_,rfl,.inl rfl⟩,⟨⟨_,rfl,.inl rfl⟩,⟨⟨_,rfl,.inl rfl⟩,trivial⟩⟩⟩⟩⟩⟩⟩⟩⟩⟩ ⟨⟨by decide,_,rfl,.inl rfl⟩,⟨⟨by decide,_,rfl,.inl rfl⟩,⟨⟨by decide,_,rfl,.inl rfl⟩,trivial⟩⟩⟩ ?_
     generalize htd:[(0:Int)]=tl
     have htl1:tl.length=1:=by rw[← htd];rfl
     refine zai eRg zae [2,5,10,11,13,14,15,92,93] [] 300 (fun x:Nat=>[(94,i64 (0:Int))]) (fun _=>[]) [] (fun x=>x) (0) ?_
     conv=>whnf
     refine⟨?_,fun x=>?_⟩
     · conv => whnf
       (repeat' first|exact True.intro|apply And.intro|rfl)
     conv=>whnf
     repeat' ((first|(refine zt6 (args2:=[c.av,i64 q,.agg [i64 kn,.rsl 29 []]]) ⟨.inl .r,.inl .r,.inl (.inr ⟨_,_,rfl,rfl,.r,.n,trivial⟩),trivial⟩ ?_;refine zay eRg zae Tryz.func44 rfl (by decide) rfl rfl ?_)|refine zkh rfl (zmv c.b.l hne h70) zpx rfl ?_|refine zap (zbl (l:=c.b.l) (n:=(q:Int)) (by simp;omega)) ?_|refine Rq.mk (b:=chk3 _ _ _ _ _ _) (by kernel_rfl) ?_|refine Rq.mk (by(first|rfl|((try simp only[rz]);omega))) ?_|refine Br.split (fun h=>?_) (fun h=>?_)<;>(try simp only[bz] at h)<;>try (exfalso;omega)|refine And.intro (a:=zaw _=true) (by kernel_rfl) (LzK.e ?_))<;>conv=>whnf)
     · have hinb:∀(n:Nat) (hn:n<c.b.l.length),∀i∈c.b.l[n].ins.l,i.op=16→i.p=(q:Int)→0≤i.n∧i.n.toNat<tl.length:=fun n hn i hi h h2=>by
        have:=hgto _ (List.getElem_mem hn) i hi h h2;omega
       obtain⟨nb,hnb1,hnb2⟩:∃nb:Bd,nb.regs=kn∧nb.ins.l=[]:=⟨⟨kn,⟨[],by simp⟩⟩,rfl,rfl⟩
       have hnb3:nb.cells=[i64 kn,.rsl 29 []]:=by rw[Bd.cells,hnb1,hnb2];rfl
       have hlenall:∀(n:Nat) (h:n<c.b.l.length),c.b.l[n].ins.l.length≤10000:=fun n h=>hall _ (List.getElem_mem h)
       refine zoq 8347 _ [(2,i64 q),(10,_),(11,.nils),(14,.nils),(15,.rsl 1 (tl.map ic)),(23,.ptr 8344 0 0),(116,_),(117,_)] [(2,_),(8344,.arr 7 [[ziu c.p.procs.l,i64 c.p.static,zi3 c.p.image.l,ztg c.p.files.l,.rsl 1 (c.p.conds.l.map fun s=>[.str s.l]),zaq c.p.ctl.l,.slc 8353 0 c.b.l.length 2]]),(8353,.arr 2 (zcp q tl c.b.l nb 0))] rfl ⟨⟨_,rfl,.inl rfl⟩,⟨⟨_,rfl,.inl rfl⟩,⟨⟨_,rfl,.inl rfl⟩,⟨⟨_,rfl,.inl rfl⟩,⟨⟨_,rfl,.inl rfl⟩,⟨⟨_,rfl,.inl rfl⟩,⟨⟨_,rfl,.inl rfl⟩,⟨⟨_,rfl,.inl rfl⟩,trivial⟩⟩⟩⟩⟩⟩⟩⟩ ⟨⟨by decide,_,rfl,.inl rfl⟩,⟨⟨by decide,_,rfl,.inl rfl⟩,⟨⟨by decide,_,rfl,.inl (congrArg (AObj.arr 2) (zw5 hnb3.symm).symm)⟩,trivial⟩⟩⟩ ?_
       refine zwn eRg zae [2, 10, 11, 14, 15, 23, 116] [8353] 20000 (fun x:{x:B3 // x.okz c.b.l.length}=>match x.1 with
        | .pre n=>[(117,i64 n)]
        | .post n => [(117, i64 n)]) (fun x=>match x.1 with
        | .pre n=>[]
        | .post n=>[(8353,.arr 2 (zcp q tl c.b.l nb n))]) [] (fun x=>c.b.l.length+1 - x.1.n) (⟨.post 0,Nat.zero_le _⟩) ?_
       conv=>whnf
       refine⟨?_,fun x=>?_⟩
       · conv => whnf
         (repeat' first|exact True.intro|apply And.intro|rfl|exact zbz (s:=2) rfl|exact zd3 (s:=2))
       rcases x with⟨⟨n⟩|⟨n⟩,hx⟩
       · exact hx.elim
       · have hx0 : n ≤ c.b.l.length := hx
         by_cases hnl:n<c.b.l.length
         · by_cases hnq : n = q
           · have hx1 : n = q := hnq
             conv=>whnf
             repeat' ((first|refine zap (by(exact zzr (by simp;omega) hq hnb3) ) ?_|refine Rq.mk (by(first|rfl|((try simp only[rz]);omega))) ?_|refine Br.split (fun h=>?_) (fun h=>?_)<;>(try simp only[bz] at h)<;>try (exfalso;omega))<;>conv=>whnf)
             refine zai eRg zae [2,10,11,14,15,23,116,117,141] [8353] 500 (fun y:Nat=>[(142,i64 (0:Int))]) (fun _=>[(8353,.arr 2 (zcp q tl c.b.l nb (n+1)))]) [] (fun y=>y) (0) ?_
             conv=>whnf
             refine⟨?_,fun y=>?_⟩
             · conv => whnf
               (repeat' first|exact True.intro|apply And.intro|rfl|exact zbz (s:=2) (zzq hnl hnq)|exact zd3 (s:=2))
             conv=>whnf
             repeat' first
              | (refine Br.split (fun h=>?_) (fun h=>?_)<;>(try simp only[bz] at h)<;>first|(exfalso;omega)|(conv=>whnf))
             all_goals first
              | (refine ⟨⟨.post (n + 1), (by first | exact ⟨by omega, by omega⟩ | (show n + 1 ≤ _; omega))⟩, _, FzS.r, ?_, rfl, (show _ - _ < _ - _ from (by simp only [B3.n]; omega))⟩
                 conv=>whnf
                 (repeat' first|exact True.intro|apply And.intro|rfl|exact zbz (s:=2) rfl|exact zbz (s:=2) (zzq hnl hnq)|exact zd3 (s:=2)|exact zav (sz:=1) (f:=ic) (fun _=>by rfl)|exact zaj (sz:=1) (f:=ic) (fun _=>by rfl)|(refine cw ?_ ?_ ?_<;>(try dsimp only)<;>omega)|exact congrArg (AV.int .i64) (by(try dsimp only);omega)))
           · by_cases hins : c.b.l[n].ins.l = []
             · skip
               conv=>whnf
               repeat' ((first|(refine zar rfl (zii _ hins) ?_;rintro _ rfl;refine⟨_,rfl,?_⟩)|refine zap (by first|exact zde rfl (by simp only[zdc,zck];omega)|exact zd6 (by simp) (by omega) (by omega)) ?_|refine Rq.mk (b:=chk3 _ _ _ _ _ _) (by kernel_rfl) ?_|refine Rq.mk (by(first|rfl|((try simp only[rz]);omega))) ?_|refine Br.split (fun h=>?_) (fun h=>?_)<;>(try simp only[bz] at h)<;>try (exfalso;omega)|refine And.intro (a:=zaw _=true) (by kernel_rfl) (LzK.e ?_))<;>conv=>whnf)
               refine zai eRg zae [2,10,11,14,15,23,116,117,141] [8353] 500 (fun y:Nat=>[(142,i64 (0:Int))]) (fun _=>[(8353,.arr 2 (zcp q tl c.b.l nb (n+1)))]) [] (fun y=>y) (0) ?_
               conv=>whnf
               refine⟨?_,fun y=>?_⟩
               · conv => whnf
                 (repeat' first|exact True.intro|apply And.intro|rfl|exact zbz (s:=2) (by rw[← zfg hnl hnq (by rw[zhi hins])];congr 1;simp)|exact zd3 (s:=2))
               conv=>whnf
               repeat' first
                | (refine Br.split (fun h=>?_) (fun h=>?_)<;>(try simp only[bz] at h)<;>first|(exfalso;omega)|(conv=>whnf))
               all_goals first
                | (refine ⟨⟨.post (n + 1), (by first | exact ⟨by omega, by omega⟩ | (show n + 1 ≤ _; omega))⟩, _, FzS.r, ?_, rfl, (show _ - _ < _ - _ from (by simp only [B3.n]; omega))⟩
                   conv=>whnf
                   (repeat' first|exact True.intro|apply And.intro|rfl|exact zbz (s:=2) rfl|exact zbz (s:=2) (by rw[← zfg hnl hnq (by rw[zhi hins])];congr 1;simp)|exact zd3 (s:=2)|exact zav (sz:=1) (f:=ic) (fun _=>by rfl)|exact zaj (sz:=1) (f:=ic) (fun _=>by rfl)|(refine cw ?_ ?_ ?_<;>(try dsimp only)<;>omega)|exact congrArg (AV.int .i64) (by(try dsimp only);omega)))
             · skip
               conv=>whnf
               repeat' ((first|refine zkh rfl (zmu _ hins (by have:=hlenall n (by omega);omega)) zpg rfl ?_|refine zap (by first|exact zde rfl (by simp only[zdc,zck];omega)|exact zd6 (by simp) (by omega) (by omega)) ?_|refine Rq.mk (b:=chk3 _ _ _ _ _ _) (by kernel_rfl) ?_|refine Rq.mk (by(first|rfl|((try simp only[rz]);omega))) ?_|refine Br.split (fun h=>?_) (fun h=>?_)<;>(try simp only[bz] at h)<;>try (exfalso;omega)|refine And.intro (a:=zaw _=true) (by kernel_rfl) (LzK.e ?_))<;>conv=>whnf)
               refine zai eRg zae [2,10,11,14,15,23,24,116,117,140,141] [8353,28384] 500 (fun y:{w:Nat // w≤c.b.l[n].ins.l.length}=>[(142,i64 y.1)]) (fun y=>[(8353,.arr 2 ((zcp q tl c.b.l nb n).set n (ownR c.b.l[n].regs 28384 c.b.l[n].ins.l.length))),(28384,.arr 29 ((za9 (patI q tl) c.b.l[n].ins.l y.1).map Ins.cells))]) [] (fun y=>c.b.l[n].ins.l.length+1 - y.1) (⟨0,Nat.zero_le _⟩) ?_
               conv=>whnf
               refine⟨?_,fun y=>?_⟩
               · conv => whnf
                 (repeat' first|exact True.intro|apply And.intro|rfl|exact zb1 (s:=29) (by rw[zig])|exact zdv (s:=29)|exact ziv (s:=2) (by first|rfl|(congr 1;simp)) (by rfl)|exact zk8 (s:=2) (by rfl))
               rcases y with⟨y,hy⟩
               have hln:=hlenall n hnl;have hyl:(za9 (patI q tl) c.b.l[n].ins.l y).length=c.b.l[n].ins.l.length:=zbj (patI q tl) c.b.l[n].ins.l;have hpat:∀h:y<c.b.l[n].ins.l.length,((za9 (patI q tl) c.b.l[n].ins.l y)[((y:Int)).toNat]'(by rw[hyl];exact h)).op=16→((za9 (patI q tl) c.b.l[n].ins.l y)[((y:Int)).toNat]'(by rw[hyl];exact h)).p=(q:Int)→0≤((za9 (patI q tl) c.b.l[n].ins.l y)[((y:Int)).toNat]'(by rw[hyl];exact h)).n∧((za9 (patI q tl) c.b.l[n].ins.l y)[((y:Int)).toNat]'(by rw[hyl];exact h)).n.toNat<tl.length:=fun h=>by
                rw[zn1 h];exact hinb n hnl _ (List.getElem_mem h)
               (try dsimp only at hy)
               conv=>whnf
               repeat' ((first|refine zap (by first|exact zbl (l:=za9 (patI q tl) c.b.l[n].ins.l y) (n:=(y:Int)) (by omega)|exact zde (by simp) (by simp only[zdc,zck];omega) ) ?_|refine Rq.mk (b:=chk3 _ _ _ _ _ _) (by kernel_rfl) ?_|refine Rq.mk (by(first|rfl|((try simp only[rz]);(first|omega|(have hpa:=hpat (by omega);omega))))) ?_|refine Br.split (fun h=>?_) (fun h=>?_)<;>(try simp only[bz] at h)|refine Ok3.mk _ (za2 (by((have hpa:=hpat (by omega);omega)))) ?_|refine And.intro (a:=zaw _=true) (by kernel_rfl) (LzK.e ?_))<;>conv=>whnf)
               all_goals first
                | (refine ⟨⟨y + 1, by omega⟩, ?_, rfl, (by (dsimp only); omega)⟩
                   conv=>whnf
                   (repeat' first|exact True.intro|apply And.intro|rfl|exact zb1 (s:=29) (zlb (q:=q) (tl:=tl) (L:=c.b.l[n].ins.l) (j:=y) (by omega) (by omega) (congrArg Ins.cells (zu8 (by omega) (by omega)).symm))|exact zb1 (s:=29) (zla (q:=q) (tl:=tl) (L:=c.b.l[n].ins.l) (j:=y) (by omega) (by omega) (by omega))|exact zdv (s:=29)|exact ziv (s:=2) (by first|rfl|(congr 1;simp)) (by rfl)|exact zk8 (s:=2) (by rfl)|exact zav (sz:=1) (f:=ic) (fun _=>by rfl)|exact zaj (sz:=1) (f:=ic) (fun _=>by rfl)|(refine cw ?_ ?_ ?_<;>(try dsimp only)<;>omega)|exact congrArg (AV.int .i64) (by(try dsimp only);omega)))
                | (refine ⟨⟨.post (n + 1), (by first | exact ⟨by omega, by omega⟩ | (show n + 1 ≤ _; omega))⟩, _, FzS.z 28384 _ [(2, _), (10, _), (11, _), (14, _), (15, _), (23, _), (116, _), (117, _)] [(2, _), (8344, _), (8353, .arr 2 (zcp q tl c.b.l nb (n + 1)))] rfl ⟨⟨_, rfl, .inl rfl⟩, ⟨⟨_, rfl, .inl rfl⟩, ⟨⟨_, rfl, .inl rfl⟩, ⟨⟨_, rfl, .inl rfl⟩, ⟨⟨_, rfl, .inl rfl⟩, ⟨⟨_, rfl, .inl rfl⟩, ⟨⟨_, rfl, .inl rfl⟩, ⟨⟨_, rfl, .inl rfl⟩, trivial⟩⟩⟩⟩⟩⟩⟩⟩ ⟨⟨by decide, _, rfl, .inl rfl⟩, ⟨⟨by decide, _, rfl, .inl rfl⟩, ⟨⟨by decide, _, rfl, zv2 hnl hnq rfl (zpj (L := c.b.l[n].ins.l.map (patI q tl)) (by rw [zfo (by omega : y = c.b.l[n].ins.l.length)]) (by simp only [List.length_map, zbj] <;> omega))⟩, trivial⟩⟩⟩, ?_, rfl, (show _ - _ < _ - _ from (by simp only [B3.n]; omega))⟩
                   conv=>whnf
                   (repeat' first|exact True.intro|apply And.intro|rfl|exact zbz (s:=2) rfl|exact zd3 (s:=2)|exact zav (sz:=1) (f:=ic) (fun _=>by rfl)|exact zaj (sz:=1) (f:=ic) (fun _=>by rfl)|(refine cw ?_ ?_ ?_<;>(try dsimp only)<;>omega)|exact congrArg (AV.int .i64) (by(try dsimp only);omega)))
         · skip
           conv=>whnf
           repeat' first
            | (refine Br.split (fun h=>?_) (fun h=>?_)<;>(try simp only[bz] at h)<;>first|(exfalso;omega)|(conv=>whnf))
           have hnn:n=c.b.l.length:=by omega
           generalize hg2:snap _ 20 _=rr
           obtain rfl:=hg2.symm.trans (zd5 (n:=19) (zd2 (n:=18) (zab rfl (zab rfl (zab rfl (zab rfl (zab rfl (zab rfl (zab (zbk (f:=Bd.cells) (l:=(spC c q tl nb).b.l) (n:=17) (fun _=>rfl) rfl (zu6 hnn) (by simp[spC])) rfl)))))))) rfl)
           exact⟨spC c q tl nb,_,[],rfl,Told.nil,zyu (R:=[]) (by rw[hnb2];rfl) (Nat.zero_le _) (fun i hi=>by cases hi),Nat.zero_le _⟩
 · have hx0 : SpS c.b.l[q].ins.l m (o :: os) (t :: ts) (r :: rs) := hx
   have h1:=hx0.ml;have h2:=hx0.tol;simp only[List.length_cons] at h2;omega
end Go.Ago
end
