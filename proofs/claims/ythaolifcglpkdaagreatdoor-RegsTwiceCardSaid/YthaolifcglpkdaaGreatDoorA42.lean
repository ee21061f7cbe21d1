/-
  Part A42: lemmas, each with its own conditions.
-/
import Derived.Test.YthaolifcglpkdaaGreatDoorA29
import Derived.Test.YthaolifcglpkdaaGreatDoorA41
set_option maxRecDepth 100000
set_option maxHeartbeats 0
set_option linter.all false
section
namespace Go.Ago
open Go.Proofs List Nat Tryz
attribute [local irreducible] bN bM aZ bK b_ wr bp bL comp DC DP DW DV
attribute [local irreducible] dJ ct aL cH dP dI ec dX cB dM dR bV bn bB eA aP bC
inductive n8|z|s (m:Nat) (o:Int) (os:List Int) (t:Int) (ts:List Int) (r:Ins) (rs:List Ins)
structure fB (k:Int)(is:List Ins)(m:Nat)(of tg:List Int)(rows:List Ins):Prop where
 ml:m≤is.length
 rw:rows=dA k (is.take m)
 ow:of=cJ k 0 (is.take m)
 tw:tg=eM k is m
theorem fB.rl {k:Int}{is:List Ins}{m:Nat}{of tg:List Int}{rows:List Ins}(h:fB k is m of tg rows):rows.length≤4 * m:=by
 have h1:=@C_ k (is.take m);rw[<-h.rw,length_take,Nat.min_eq_left h.ml] at h1;exact h1
theorem fB.gT {k:Int}{is:List Ins}{m:Nat}{of tg:List Int}{rows:List Ins}(h:fB k is m of tg rows):of.length≤4 * m:=by
 have h1:=h.rl;rw[h.rw] at h1;rw[h.ow,uO];exact h1
theorem fB.tol {k:Int}{is:List Ins}{m:Nat}{of tg:List Int}{rows:List Ins}(h:fB k is m of tg rows):tg.length=m:=by rw[h.tw,M3]
theorem fB.DS {k:Int}{is:List Ins}{m:Nat}{of tg:List Int}{rows:List Ins}(h:fB k is m of tg rows):∀x∈tg,0≤x:=fun x hx=>by
 rw[h.tw] at hx;unfold eM at hx;obtain⟨n,_,rfl⟩:=mem_map.1 hx;exact Int.natCast_nonneg _
def pk (k:Int)(i:Ins)(out:List Ins)(n:Int):Prop:=out=bY k i∧n=(bS i:Int)
theorem OI {k:Int}{i y:Ins}(h:y∈bY k i):y.op=3∨(y.op=i.op∧y.p=i.p∧y.n=i.n∧y.m=i.m):=by
 obtain⟨s,hs,rfl⟩:=mem_iff_getElem.1 h;rcases t_ (getElem?_eq_getElem hs) with⟨_,_,_,e⟩|⟨_,_,e⟩|⟨_,e⟩|⟨_,_,_,e⟩
 . rw[e];exact .inl rfl
 . rw[e];exact .inl rfl
 . rw[e];exact .inr ⟨rfl,rfl,rfl,rfl⟩
 . rw[e];exact .inl rfl
theorem fB.old {k:Int}{is:List Ins}{m:Nat}{of tg:List Int}{rows:List Ins}(h:fB k is m of tg rows):∀y∈rows,zO is y:=fun y hy=>by
 rw[h.rw] at hy;unfold dA at hy;obtain⟨i,hi,hy⟩:=mem_flatMap.1 hy;rcases OI hy with e|e
 . exact .inl e
 . exact .inr ⟨i,mem_of_mem_take hi,e⟩
def n8.ok (k:Int)(is:List Ins):n8->Prop
 | .z=>True
 | .s m o os t ts r rs=>fB k is m (o::os) (t::ts) (r::rs)
def n8.m:n8->Nat
 | .z=>0
 | .s m _ _ _ _ _ _=>m
theorem fB.start (k:Int)(is:List Ins):fB k is 0 [] [] []:=⟨zero_le _,rfl,rfl,rfl⟩
theorem Aj {k:Int}{i:Ins}{out:List Ins}{n:Int}(h:pk k i out n):1≤out.length∧out.length≤4:=by rw[h.1];exact An
theorem Ai {k:Int}{i:Ins}{out:List Ins}{n:Int}(h:pk k i out n):∃y ys,out=y::ys:=by
 have:=(Aj h).1;rcases out with _|⟨y,ys⟩
 . simp at this
 . exact⟨y,ys,rfl⟩
theorem fB.next {k:Int}{is:List Ins}{m:Nat}{of tg of':List Int}{rows out:List Ins}(h:fB k is m of tg rows)(hm:m<is.length){n:Int}(hb:pk k is[m] out n){j:Nat}(h1:of'=of++(dV k m is[m]).take j)(h2:out.length≤j){x:Int}(hx:x=(rows.length:Int)):fB k is (m+1) of' (tg++[x]) (rows++out):=by
 refine⟨hm,by rw[Ke hm,h.rw,hb.1],?_,?_⟩
 . rw[h1,of_next hm,h.ow,take_of_length_le (l:=dV k m is[m]) (by rw[sy,<-hb.1];exact h2)]
 . rw[M4,h.tw,hx,h.rw]
theorem I0 {k:Int}{i:Ins}{out:List Ins}{n:Int}(hb:pk k i out n){m j:Nat}{base l:List Int}(h:l=base++(dV k m i).take j)(hj:j≤out.length):l.length=base.length+j:=by
 rw[h,length_append,length_take,sy,<-hb.1,Nat.min_eq_left hj]
theorem CD {k:Int}{i:Ins}{out:List Ins}{n:Int}(hb:pk k i out n){m j:Nat}(hj:j<out.length){base l:List Int}(h:l=base++(dV k m i).take j)(he:(j:Int)=n):l++[(m:Int)]=base++(dV k m i).take (j+1):=by
 have hlt:j<(bY k i).length:=by rw[<-hb.1];exact hj
 have hat:=Cw (k:=k) (n:=m) hlt;have hl:j<(dV k m i).length:=by rw[sy];exact hlt
 rw[getElem?_eq_getElem hl,if_pos (by have:=hb.2;omega)] at hat
 rw[take_succ_eq_append_getElem hl,Option.some.inj hat,h,append_assoc]
theorem CA {k:Int}{i:Ins}{out:List Ins}{n:Int}(hb:pk k i out n){m j:Nat}(hj:j<out.length){base l:List Int}(h:l=base++(dV k m i).take j)(he:¬(j:Int)=n):l++[-1]=base++(dV k m i).take (j+1):=by
 have hlt:j<(bY k i).length:=by rw[<-hb.1];exact hj
 have hat:=Cw (k:=k) (n:=m) hlt;have hl:j<(dV k m i).length:=by rw[sy];exact hlt
 rw[getElem?_eq_getElem hl,if_neg (by have:=hb.2;omega)] at hat
 rw[take_succ_eq_append_getElem hl,Option.some.inj hat,h,append_assoc]
def mR (c:Cd)(k:Int)(q:Nat)(is:List Ins)(aj:Int)(out:Cd)(of:List Int):Prop:=
 ∃nb:Bd,out=kk c q (eM k is (is.length+1)) nb∧nb.aj=k+aj∧nb.ins.l=((dA k is).map fun i=>cA i (eM k is (is.length+1))).map (bO q (eM k is (is.length+1)))∧of=cJ k 0 is
theorem mR.mk' {c:Cd}{k kn:Int}{q:Nat}{is:List Ins}{aj:Int}{of tg tl:List Int}{rows R:List Ins}{nb:Bd}(h:fB k is is.length of tg rows)(ht:tg++[(rows.length:Int)]=tl)(hR:R=rows.map fun i=>cA i tl)(h1:nb.aj=kn)(h2:nb.ins.l=R.map (bO q tl))(hk:kn=k+aj) :
 mR c k q is aj (kk c q tl nb) of:=by
 have e1:rows=dA k is:=by have:=h.rw;rw[take_length] at this;exact this
 have e2:of=cJ k 0 is:=by have:=h.ow;rw[take_length] at this;exact this
 have e3:tl=eM k is (is.length+1):=by rw[M4,<-ht,h.tw,take_length,e1]
 subst e3;exact⟨nb,rfl,h1.trans hk,by rw[h2,hR,e1],e2⟩
theorem Sv {α:Type}{f:α->List AV}{ρ:Nat->Nat}(hf:∀x,(f x).map (AV.r1 ρ)=f x){y:α}{acc ys:List α}{n:Nat}(h:n=acc.length+1) :
 List.take n (List.drop 0 (f y::acc.map f))++ys.map f=(f y::(acc++ys).map f).map (List.map (AV.r1 ρ)):=by
 subst h;have h1:List.take acc.length (acc.map f)=acc.map f:=take_of_length_le ag;simp[hf,Function.comp_def,h1]
theorem Sw {α:Type}{f:α->List AV}{y t:α}{acc:List α}{new:List (List AV)}(hn:new=[f t]){n:Nat}(h:n=acc.length+1):List.take n (List.drop 0 (f y::acc.map f))++new=(y::(acc++[t])).map f:=by
 subst hn;subst h;have h1:List.take acc.length (acc.map f)=acc.map f:=take_of_length_le ag;simp[h1]
theorem NY {α:Type}{f:α->List AV}{a:Nat}{y t:α}{acc:List α}{new:List (List AV)}(hn:new=[f t])(h:a=acc.length+1):a+new.length=(y::(acc++[t])).length:=by
 subst hn;subst h;simp
theorem gQ {ρ:Nat->Nat}{s:Nat}{l:List Ins}{es:List (List AV)}(h:es=l.map Ins.cells):an.arr s es=an.cp ρ (.arr s (l.map Ins.cells)):=by
 subst h;simp only[an.cp,map_map];congr 1
theorem jM {n s:Nat}{l:List Ins}:an.lt n (.arr s (l.map Ins.cells)):=by
 show(List.all _ _)=true;rw[all_map,all_eq_true];intro x _;rfl
theorem R_ {nm sz len n:Nat}{rows:List (List AV)}{l:List Int}(h:rows=l.map ic)(hl:len=l.length)(hs:sz=1):snap (.put nm (some (.arr sz rows)) .nil) (n+2) (.az nm 0 len sz)=some (.ak 1 (l.map ic)):=by
 subst h;subst hl;subst hs;exact gu (f:=ic) (l:=l) (n:=n+1) (fun _=>rfl) (by rw[Tr.get,beq_refl];rfl) rfl rfl
abbrev d_ (tl:List Int):Ins->Ins:=fun i=>cA i tl
theorem Yh {tl:List Int}{rows:List Ins}{r:Ins}{rs:List Ins}{ρ:Nat->Nat}(h:r::rs=rows):an.arr 29 (r.cells::rs.map Ins.cells)=an.cp ρ (.arr 29 ((bm (d_ tl) rows 0).map Ins.cells)):=by
 subst h;rw[pY];exact dZ (f:=Ins.cells) (fun _=>rfl)
theorem Wd {is:List Ins}{n:Int}{tl:List Int}(hv:∀i∈is,InsV n is.length i)(h0:∀x∈tl,0≤x)(hn:tl.length=is.length+1){i:Ins}(ho:zO is i){x:Int}(hx:x∈bT i):ru tl x:=by
 have key:∀x:Int,0≤x∧x≤(is.length:Int)->ru tl x:=fun x hx=>⟨hx.1,aa,h0 _ (getElem_mem _)⟩
 rcases ho with ho|⟨i0,h1,h2,h3,h4,h5⟩
 . unfold bT at hx
   rw[if_neg aa,if_neg aa] at hx;cases hx
 . refine key x ((hv i0 h1).t x ?_)
   unfold bT at hx ⊢;rw[h2,h4,h5] at hx;exact hx
theorem Yg {tl:List Int}{rows:List Ins}(h:∀i∈rows,∀x∈bT i,ru tl x){j:Nat}(hj:j<rows.length){i:Ins}(hi:i=rows[j]):∀x∈bT i,ru tl x:=by
 subst hi;exact h _ (getElem_mem hj)
theorem Yf {tl:List Int}{rows:List Ins}{j:Nat}(h:j<rows.length):((bm (d_ tl) rows j).map Ins.cells).set (0+((j:Nat):Int).toNat) (cA ((bm (d_ tl) rows j)[((j:Int)).toNat]'(by rw[gL];simpa using h)) tl).cells=(bm (d_ tl) rows (j+1)).map Ins.cells:=by
 have e:(bm (d_ tl) rows j)[((j:Int)).toNat]'(by rw[gL];simpa using h)=rows[j]:=rP h (by rw[gL];exact h)
 rw[e,Nat.zero_add,Int.toNat_natCast,<-map_set,rQ h]
theorem sO {α:Type}{f:α->List AV}(h:∀x,((f x).all AV.one)=true){l:List α}:((l.map f).all fun e=>e.all AV.one)=true:=
 all_eq_true.2 fun e he=>by obtain⟨x,_,rfl⟩:=mem_map.1 he;exact h x
theorem rA (B:Nat){add by_:Nat}(hb:by_=B)(hl:add≤10000)(h4:10000 * (B+1)≤140737488355328):ble (add * (by_+1)) 140737488355328=true:=by
 subst hb;exact ble_eq_true_of_le (Nat.le_trans (mul_le_mul_right _ hl) h4)
theorem rB (B:Nat){i len el add by_:Nat}(h3:i+len≤el)(hb:by_=B)(hl:len+add≤10000)(h4:10000 * (B+1)≤140737488355328) :
 (ble (i+len) el && ble ((len+add) * (by_+1)) 140737488355328)=true:=by
 subst hb;rw[ble_eq_true_of_le h3,ble_eq_true_of_le (Nat.le_trans (mul_le_mul_right _ hl) h4)];rfl
inductive B3|pre (n:Nat)|post (n:Nat)
def B3.ok (q len:Nat):B3->Prop
 | .pre n=>n≤q
 | .post n=>q<n∧n≤len
def B3.n:B3->Nat
 | .pre n=>n
 | .post n=>n
theorem CM {q:Nat}{tl:List Int}{b:Bd}(h:b.ins.l=[]):(kf q tl b).cells=[i64 b.aj,.ak 29 []]:=by show[i64 b.aj,.ak 29 ((b.ins.l.map _).map Ins.cells)]=_;rw[h];rfl
theorem Jz {q:Nat}{tl:List Int}{l:List Bd}{nb:Bd}{n:Nat}(h:n=l.length):dz q tl l nb n=((l.map (kf q tl)).set q nb).map Bd.cells:=by rw[dz,pZ h]
theorem WL {q:Nat}{tl:List Int}{l:List Bd}{nb:Bd}{e:List AV}(h:e=nb.cells):(l.map Bd.cells).set (0+((q:Int)).toNat) e=dz q tl l nb 0:=by subst h;simp[dz,pY]
theorem Jx {q:Nat}{tl:List Int}{l:List Bd}{nb:Bd}{n m:Nat}(hm:m=q)(h:q<l.length){e:List AV}(he:nb.cells=e):(dz q tl l nb n)[m]? = some e:=by
 subst hm;subst he;show(List.map _ _)[_]? = _;rw[getElem?_map,getElem?_set_self (by rw[gL];exact h)]
 rfl
theorem Jy {q:Nat}{tl:List Int}{l:List Bd}{nb:Bd}{n:Nat}(h:n<l.length)(hn:n=q):dz q tl l nb n=dz q tl l nb (n+1):=by
 subst hn;show List.map _ _=List.map _ _;rw[Gw h]
def B3.Wb (len:Nat):B3->Prop
 | .pre _=>False
 | .post n=>n≤len
theorem Sb {q n:Nat}{tl:List Int}{l:List Bd}{kn:Int}{k len:Nat}{nb:Bd}{nm:Nat}{o:an}{L:List Ins}(hn:n=q)(h:q<l.length)(hf:gJ nm o (.az k 0 len 29) (.ak 29 (L.map Ins.cells)))(hb:nb.cells=[i64 kn,.ak 29 (L.map Ins.cells)]) :
 j3 nm o (.arr 2 (eW q tl l kn k len n)) (.arr 2 (dz q tl l nb (n+1))):=by
 subst hn;exact Sa h hf hb
theorem gC (l:List Ins)(h:l=[]):af 19 [np l] (fun ae=>ae = .ret (.ak 29 [])):=by subst h;exact P9
structure tR (c:Cd)(k:Int)(q n:Nat):Prop where
 hq:q<c.b.l.length
 eU:c.b.l.length≤100
 hk:4≤k∧k≤4000
 hn:n≤64
 rg:c.b.l[q].aj=(n:Int)
 len:c.b.l[q].ins.l.length≤1000
 iv:∀i∈c.b.l[q].ins.l,InsV (n:Int) c.b.l[q].ins.l.length i
 h_:∀i∈c.b.l[q].ins.l,i.l.l.length≤40
 gto:tH c (q:Int) c.b.l[q].ins.l.length
 all:∀b∈c.b.l,b.ins.l.length≤10000
 mv:∀i∈c.b.l[q].ins.l,i.op=3->0≤i.a
theorem InsV.hi {n:Nat}{m:Nat}{i:Ins}(h:InsV (n:Int) m i):i.a<n∧i.b<n∧i.d<n∧∀r∈i.l.l,r<n:=
 ⟨h.a.elim (fun e=>aa) (·.2),h.b.elim (fun e=>aa) (·.2),h.d.elim (fun e=>aa) (·.2),fun r hr=>(h.l r hr).2⟩
theorem Ak (i:Ins)(k:Int)(n:Nat)(hk:4≤k∧k<100000)(hn:n≤1000)(hl40:i.l.l.length≤40)(hr:i.a<n∧i.b<n∧i.d<n∧∀r∈i.l.l,r<n)(hmv:i.op=3->0≤i.a) :
 af 91 [i.av,i64 k,.fn (.func 89) [] [.bq [aU (bC n)]],.bool true] (fun ae=>∃out at_,ae = .ret (.ao [np out,i64 at_])∧pk k i out at_):=by
 refine(Oo i k n hk hn hl40 hr hmv).told ?_
 rintro _ ⟨rows,at_,rfl,hb,ht⟩
 exact⟨_,.ao [np (bY k i),i64 at_],rfl,Told.ao ⟨Told.rows ht,.r,trivial⟩,bY k i,at_,rfl,rfl,hb⟩
attribute [local irreducible] eW dz bm bO kf
theorem YU (c:Cd)(k:Int)(q n:Nat)(h:tR c k q n)(h0:∀hq:q<c.b.l.length,c.b.l[q].ins.l.length=0) :
 af 46 [c.av,i64 k,i64 q,aU (bC n),.bool true] (fun ae=>∃(out:Cd) (v:AV) (of:List Int),ae = .ret (.ao [out.av,v])∧Told v (aU of)∧mR c k q (c.b.l[q]'h.hq).ins.l (c.b.l[q]'h.hq).aj out of):=by
 obtain⟨hq,h70,hk,hn,hrg,hlen,hiv,hlst,hgto,hall,hmv⟩:=h;have hz:=h0 hq;have hcl:=c.b.h;have cF:c.b.l≠[]:=fun e=>by rw[e] at hq;simp at hq
 refine zw func46 ?_;refine zk ?_
 repeat' ((first|refine ay.mk _ (bI (l:=c.b.l) (i:=q) hq) ?_|(refine zp ?_ ?_<;>first|exact⟨⟩|intro h)|refine ay.mk _ (bI aa) ?_|refine ay.mk _ (cU aa) ?_|refine zo ?_)<;>refine zk ?_)
 have hkw:wr .i64 (k+(c.b.l[q]).aj)=k+(c.b.l[q]).aj:=aF aa aa
 generalize hkn:wr .i64 (k+(c.b.l[q]).aj)=kn at hkw
 refine DW.ov 1 (.arr 1 [[aU (bC n)]]) [(1,_),(2,_),(4,_),(5,_),(10,_),(11,_),(12,(.fn (.func 89) [] [.bq [aU (bC n)]])),(13,_),(42,_),(43,_),(44,_),(14,_),(15,_)] [(0,_),(2,_),(15,_)] rfl ⟨⟨_,rfl,.inl rfl⟩,⟨⟨_,rfl,.inl rfl⟩,⟨⟨_,rfl,.inl rfl⟩,⟨⟨_,rfl,.inl rfl⟩,⟨⟨_,rfl,.inl rfl⟩,⟨⟨_,rfl,.inl rfl⟩,⟨⟨_,rfl,.inr rfl⟩,⟨⟨_,rfl,.inl rfl⟩,⟨⟨_,rfl,.inl rfl⟩,⟨⟨_,rfl,.inl rfl⟩,⟨⟨_,rfl,.inl rfl⟩,⟨⟨_,rfl,.inl rfl⟩,⟨⟨_,rfl,.inl rfl⟩,trivial⟩⟩⟩⟩⟩⟩⟩⟩⟩⟩⟩⟩⟩ ⟨⟨ab,_,rfl,.inl rfl⟩,⟨⟨ab,_,rfl,.inl rfl⟩,⟨⟨ab,_,rfl,.inl rfl⟩,trivial⟩⟩⟩ ?_;refine DW.aO aC aD [1, 2, 4, 5, 10, 11, 12, 13, 42, 43] [15] 8000 (fun x:{x:n8 // x.ok k c.b.l[q].ins.l}=>match x.1 with
  | .z=>[(44,i64 ((0:Nat):Int)),(14,.ah),(15,.ah)]
  | .s m o os t ts r rs => [(44, i64 m), (14, .az 1000 0 ((os.map ic).length + 1) 1), (15, .az 2000 0 ((ts.map ic).length + 1) 1)]) (fun x=>match x.1 with
  | .z=>[(15,.arr 2 [[i64 kn,.ah]])]
  | .s m o os t ts r rs=>[(15,.arr 2 [[i64 kn,.az 3000 0 ((rs.map Ins.cells).length+1) 29]]),(1000,.arr 1 (ic o::os.map ic)),(2000,.arr 1 (ic t::ts.map ic)),(3000,.arr 29 (r.cells::rs.map Ins.cells))]) [(1000,.slot 14),(2000,.slot 15),(3000,.cell 15 1)] (fun x=>c.b.l[q].ins.l.length+1 - x.1.m) (⟨.z,trivial⟩) ?_
 refine zl fun x=>?_
 rcases x with⟨_|⟨m,o,os,t,ts,r,rs⟩,hx⟩
 . have hx0 := fB.start k c.b.l[q].ins.l
   have hmb:0≤c.b.l[q].ins.l.length:=zero_le _;refine zk ?_
   repeat' ((first|refine Rq.mk (sO (f:=Ins.cells) (fun _=>rfl)) ?_|(refine Rq.mk (rA 304 rfl gW ab) ?_)|refine zf ?_|refine Br.t (b:=beq _ _) rfl ?_|(refine Rq.mk (di 8 8000 ag rfl rfl gW ab) ?_)|(refine Rq.mk (rB 304 ag rfl gW ab) ?_)|refine ay.mk _ (bI (l:=c.b.l[q].ins.l) (i:=0) aa) ?_|(refine zp ?_ ?_<;>first|exact⟨⟩|intro h)|refine ay.mk _ (bI aa) ?_|refine ay.mk _ (cU aa) ?_|(refine DC.pure rfl (Ak (c.b.l[q].ins.l[0]'aa) k n ⟨hk.1,aa⟩ aa (hlst _ (getElem_mem _)) (hiv _ (getElem_mem _)).hi (hmv _ (getElem_mem _))) ?_;rintro _ ⟨out,at_,rfl,hb⟩;obtain⟨y0,ys,rfl⟩:=Ai hb)|refine zo ?_)<;>refine zk ?_)
   . have hme : c.b.l[q].ins.l = [] := eq_nil_of_length_eq_zero aa
     refine DW.ov 8033 _ [(2,_),(5,_),(10,_),(11,_),(13,_),(14,_),(15,.ak 1 ([(0:Int)].map ic)),(92,_),(93,_),(94,_)] [(0,_),(2,_),(15,_)] rfl ⟨⟨_,rfl,.inl rfl⟩,⟨⟨_,rfl,.inl rfl⟩,⟨⟨_,rfl,.inl rfl⟩,⟨⟨_,rfl,.inl rfl⟩,⟨⟨_,rfl,.inl rfl⟩,⟨⟨_,rfl,.inl rfl⟩,⟨⟨_,rfl,.inr rfl⟩,⟨⟨_,rfl,.inl rfl⟩,⟨⟨_,rfl,.inl rfl⟩,⟨⟨_,rfl,.inl rfl⟩,trivial⟩⟩⟩⟩⟩⟩⟩⟩⟩⟩ ⟨⟨ab,_,rfl,.inl rfl⟩,⟨⟨ab,_,rfl,.inl rfl⟩,⟨⟨ab,_,rfl,.inl rfl⟩,trivial⟩⟩⟩ ?_
     generalize htd:[(0:Int)]=tl
     have htl1:tl.length=1:=by rw[<-htd];rfl
     refine DW.aO aC aD [2,5,10,11,13,14,15,92,93] [] 300 (fun x:Nat=>[(94,i64 (0:Int))]) (fun _=>[]) [] (fun x=>x) (0) ?_
     refine zl fun x=>?_
     refine zk ?_
     repeat' ((first|(refine DC.lr (args2:=[c.av,i64 q,.agg [i64 kn,.ak 29 []]]) ⟨.inl .r,.inl .r,.inl (.inr ⟨_,_,rfl,rfl,.r,.n,trivial⟩),trivial⟩ ?_;refine zd func44 ?_)|refine DV.new rfl (AL c.b.l cF h70) Af rfl ?_|(refine cb (fh (l:=c.b.l) (n:=(q:Int)) ez) ?_)|(refine ay.mk _ (fh (l:=c.b.l) (n:=(q:Int)) ez) ?_)|(refine zp ?_ ?_<;>first|exact⟨⟩|intro h)|refine ay.mk _ (bI aa) ?_|refine ay.mk _ (cU aa) ?_|refine zo ?_)<;>refine zk ?_)
     . have hinb:∀(n:Nat) (hn:n<c.b.l.length),∀i∈c.b.l[n].ins.l,i.op=16->i.p=(q:Int)->0≤i.n∧i.n.toNat<tl.length:=fun n hn i hi h h2=>by
        have:=hgto _ (getElem_mem hn) i hi h h2;omega
       obtain⟨nb,hnb1,hnb2⟩:∃nb:Bd,nb.aj=kn∧nb.ins.l=[]:=⟨⟨kn,⟨[],ag⟩⟩,rfl,rfl⟩;have hnb3:nb.cells=[i64 kn,.ak 29 []]:=by rw[Bd.cells,hnb1,hnb2];rfl
       have hlenall:∀(n:Nat) (h:n<c.b.l.length),c.b.l[n].ins.l.length≤10000:=fun n h=>hall _ (getElem_mem h)
       refine DW.ov 8347 _ [(2,i64 q),(10,_),(11,.ah),(14,.ah),(15,.ak 1 (tl.map ic)),(23,.ptr 8344 0 0),(116,_),(117,_)] [(2,_),(8344,.arr 7 [[mo c.p.procs.l,i64 c.p.static,nj c.p.image.l,p_ c.p.files.l,.ak 1 (c.p.conds.l.map fun s=>[.str s.l]),aU c.p.dv.l,.az 8353 0 c.b.l.length 2]]),(8353,.arr 2 (dz q tl c.b.l nb 0))] rfl ⟨⟨_,rfl,.inl rfl⟩,⟨⟨_,rfl,.inl rfl⟩,⟨⟨_,rfl,.inl rfl⟩,⟨⟨_,rfl,.inl rfl⟩,⟨⟨_,rfl,.inl rfl⟩,⟨⟨_,rfl,.inl rfl⟩,⟨⟨_,rfl,.inl rfl⟩,⟨⟨_,rfl,.inl rfl⟩,trivial⟩⟩⟩⟩⟩⟩⟩⟩ ⟨⟨ab,_,rfl,.inl rfl⟩,⟨⟨ab,_,rfl,.inl rfl⟩,⟨⟨ab,_,rfl,.inl (congrArg (an.arr 2) (WL hnb3.symm).symm)⟩,trivial⟩⟩⟩ ?_
       refine DW.Ce aC aD [2, 10, 11, 14, 15, 23, 116] [8353] 20000 (fun x:{x:B3 // x.Wb c.b.l.length}=>match x.1 with
        | .pre n=>[(117,i64 n)]
        | .post n => [(117, i64 n)]) (fun x=>match x.1 with
        | .pre n=>[]
        | .post n=>[(8353,.arr 2 (dz q tl c.b.l nb n))]) [] (fun x=>c.b.l.length+1 - x.1.n) (⟨.post 0,zero_le _⟩) ?_
       conv=>whnf
       refine⟨?_,fun x=>?_⟩
       . conv => whnf
         (exact zu)
       rcases x with⟨⟨n⟩|⟨n⟩,hx⟩
       . exact hx.elim
       . have hx0 : n ≤ c.b.l.length := hx
         by_cases hnl:n<c.b.l.length
         . by_cases hnq : n = q
           . have hx1 : n = q := hnq
             refine zk ?_
             repeat' ((first|(refine DC.pure rfl (gC _ hins) ?_;rintro _ rfl)|(refine zh rfl (gC _ hins) ?_;rintro _ rfl)|(refine DV.new rfl (l6 _ hins mH) me rfl ?_)|(refine cb (by first|exact Jx ez hq hnb3|exact sB rfl tz|exact CR ag aa hnq|exact sF ez hq|exact CQ ag aa aa) ?_)|(refine ay.mk _ (by first|exact Jx ez hq hnb3|exact sB rfl tz|exact CR ag aa hnq|exact sF ez hq|exact CQ ag aa aa) ?_)|(refine zp ?_ ?_<;>first|exact⟨⟩|intro h)|refine ay.mk _ (bI aa) ?_|refine ay.mk _ (cU aa) ?_|refine zo ?_)<;>refine zk ?_)
             refine DW.aO aC aD [2,10,11,14,15,23,116,117,141] [8353] 500 (fun y:Nat=>[(142,i64 (0:Int))]) (fun _=>[(8353,.arr 2 (dz q tl c.b.l nb (n+1)))]) [] (fun y=>y) (0) ?_
             conv=>whnf
             refine⟨?_,fun y=>?_⟩
             . conv => whnf
               (repeat' first|exact True.intro|apply And.intro|rfl|exact qB (s:=2) rfl|exact qB (s:=2) (Jy hnl hnq)|exact xY (s:=2)|exact dZ (sz:=1) (f:=ic) (fun _=>by rfl)|exact cX (sz:=1) (f:=ic) (fun _=>by rfl)|(refine cw ?_ ?_ ?_<;>(try dsimp only)<;>omega)|exact congrArg (AV.int .i64) cS)
             refine zg ?_
             repeat' ((first|(refine zp ?_ ?_<;>first|exact⟨⟩|intro h)|refine zo ?_)<;>refine zg ?_)
             all_goals first
              | (refine ⟨⟨.post (n + 1), tr⟩, _, iR.r, ?_, rfl, (show _ - _ < _ - _ from (by simp only [B3.n]; omega))⟩
                 conv=>whnf
                 (repeat' first|exact True.intro|apply And.intro|rfl|exact qB (s:=2) rfl|exact qB (s:=2) (Jy hnl hnq)|exact xY (s:=2)|exact dZ (sz:=1) (f:=ic) (fun _=>by rfl)|exact cX (sz:=1) (f:=ic) (fun _=>by rfl)|(refine cw ?_ ?_ ?_<;>(try dsimp only)<;>omega)|exact congrArg (AV.int .i64) cS))
           . by_cases hins : c.b.l[n].ins.l = []
             . skip
               refine zk ?_
               repeat' ((first|(refine DC.pure rfl (gC _ hins) ?_;rintro _ rfl)|(refine zh rfl (gC _ hins) ?_;rintro _ rfl)|(refine DV.new rfl (l6 _ hins mH) me rfl ?_)|(refine cb ik ?_)|(refine ay.mk _ ik ?_)|(refine zp ?_ ?_<;>first|exact⟨⟩|intro h)|refine ay.mk _ (bI aa) ?_|refine ay.mk _ (cU aa) ?_|refine zo ?_)<;>refine zk ?_)
               refine DW.aO aC aD [2,10,11,14,15,23,116,117,141] [8353] 500 (fun y:Nat=>[(142,i64 (0:Int))]) (fun _=>[(8353,.arr 2 (dz q tl c.b.l nb (n+1)))]) [] (fun y=>y) (0) ?_
               conv=>whnf
               refine⟨?_,fun y=>?_⟩
               . conv => whnf
                 (exact zr)
               refine zg ?_
               repeat' ((first|(refine zp ?_ ?_<;>first|exact⟨⟩|intro h)|refine zo ?_)<;>refine zg ?_)
               all_goals first
                | (refine ⟨⟨.post (n + 1), tr⟩, _, iR.r, ?_, rfl, (show _ - _ < _ - _ from (by simp only [B3.n]; omega))⟩
                   conv=>whnf
                   (exact zr))
             . skip
               refine zk ?_
               repeat' ((first|(refine DC.pure rfl (gC _ hins) ?_;rintro _ rfl)|(refine zh rfl (gC _ hins) ?_;rintro _ rfl)|(refine DV.new rfl (l6 _ hins mH) me rfl ?_)|(refine cb ik ?_)|(refine ay.mk _ ik ?_)|(refine zp ?_ ?_<;>first|exact⟨⟩|intro h)|refine ay.mk _ (bI aa) ?_|refine ay.mk _ (cU aa) ?_|refine zo ?_)<;>refine zk ?_)
               refine DW.aO aC aD [2,10,11,14,15,23,24,116,117,140,141] [8353,28384] 500 (fun y:{w:Nat // w≤c.b.l[n].ins.l.length}=>[(142,i64 y.1)]) (fun y=>[(8353,.arr 2 ((dz q tl c.b.l nb n).set n (jb c.b.l[n].aj 28384 c.b.l[n].ins.l.length))),(28384,.arr 29 ((bm (bO q tl) c.b.l[n].ins.l y.1).map Ins.cells))]) [] (fun y=>c.b.l[n].ins.l.length+1 - y.1) (⟨0,zero_le _⟩) ?_
               conv=>whnf
               refine⟨?_,fun y=>?_⟩
               . conv => whnf
                 (repeat' first|exact True.intro|apply And.intro|rfl|exact gQ (s:=29) (by rw[pY])|exact jM (s:=29)|exact x_ (s:=2) (by first|rfl|(congr 1;simp)) aB|exact xZ (s:=2) aB|exact dZ (sz:=1) (f:=ic) (fun _=>by rfl)|exact cX (sz:=1) (f:=ic) (fun _=>by rfl)|(refine cw ?_ ?_ ?_<;>(try dsimp only)<;>omega)|exact congrArg (AV.int .i64) cS)
               rcases y with⟨y,hy⟩
               have hln:=hlenall n hnl;have hyl:(bm (bO q tl) c.b.l[n].ins.l y).length=c.b.l[n].ins.l.length:=gL (bO q tl) c.b.l[n].ins.l;have hpat:∀h:y<c.b.l[n].ins.l.length,((bm (bO q tl) c.b.l[n].ins.l y)[((y:Int)).toNat]'jl).op=16->((bm (bO q tl) c.b.l[n].ins.l y)[((y:Int)).toNat]'jl).p=(q:Int)->0≤((bm (bO q tl) c.b.l[n].ins.l y)[((y:Int)).toNat]'jl).n∧((bm (bO q tl) c.b.l[n].ins.l y)[((y:Int)).toNat]'jl).n.toNat<tl.length:=fun h=>by
                rw[sC h];exact hinb n hnl _ (getElem_mem h)
               (try dsimp only at hy)
               refine zk ?_
               repeat' ((first|(refine cb tf ?_)|(refine ay.mk _ tf ?_)|(refine Rq.mk zA ?_)|(refine zb ?_ ?_<;>(first|exact⟨⟩|intro h)<;>try (exfalso;(first|omega|(have hpa:=hpat aa;omega))))|(refine ay.mk _ (bI o9) ?_)|(refine ay.mk _ (cU o9) ?_)|refine zo ?_)<;>refine zk ?_)
               all_goals first
                | (refine ⟨⟨y + 1, aa⟩, ?_, rfl, bG⟩
                   conv=>whnf
                   (repeat' first|exact True.intro|apply And.intro|rfl|exact gQ (s:=29) (xR (q:=q) (tl:=tl) (L:=c.b.l[n].ins.l) (j:=y) aa aa (congrArg Ins.cells (xQ aa aa).symm))|exact gQ (s:=29) (xS (q:=q) (tl:=tl) (L:=c.b.l[n].ins.l) (j:=y) aa aa aa)|exact jM (s:=29)|exact x_ (s:=2) (by first|rfl|(congr 1;simp)) aB|exact xZ (s:=2) aB|exact dZ (sz:=1) (f:=ic) (fun _=>by rfl)|exact cX (sz:=1) (f:=ic) (fun _=>by rfl)|(refine cw ?_ ?_ ?_<;>(try dsimp only)<;>omega)|exact congrArg (AV.int .i64) cS))
                | (refine ⟨⟨.post (n + 1), tr⟩, _, iR.z 28384 _ [(2, _), (10, _), (11, _), (14, _), (15, _), (23, _), (116, _), (117, _)] [(2, _), (8344, _), (8353, .arr 2 (dz q tl c.b.l nb (n + 1)))] rfl ⟨⟨_, rfl, .inl rfl⟩, ⟨⟨_, rfl, .inl rfl⟩, ⟨⟨_, rfl, .inl rfl⟩, ⟨⟨_, rfl, .inl rfl⟩, ⟨⟨_, rfl, .inl rfl⟩, ⟨⟨_, rfl, .inl rfl⟩, ⟨⟨_, rfl, .inl rfl⟩, ⟨⟨_, rfl, .inl rfl⟩, trivial⟩⟩⟩⟩⟩⟩⟩⟩ ⟨⟨ab, _, rfl, .inl rfl⟩, ⟨⟨ab, _, rfl, .inl rfl⟩, ⟨⟨ab, _, rfl, G1 hnl hnq rfl (w6 (L := c.b.l[n].ins.l.map (bO q tl)) (by rw [pZ (by omega : y = c.b.l[n].ins.l.length)]) (by simp only [length_map, gL] <;> omega))⟩, trivial⟩⟩⟩, ?_, rfl, (show _ - _ < _ - _ from (by simp only [B3.n]; omega))⟩
                   conv=>whnf
                   (exact zu))
         . skip
           refine zk ?_
           repeat' ((first|(refine DC.pure rfl (gC _ hins) ?_;rintro _ rfl)|(refine zh rfl (gC _ hins) ?_;rintro _ rfl)|(refine DV.new rfl (l6 _ hins mH) me rfl ?_)|(refine cb ik ?_)|(refine ay.mk _ ik ?_)|(refine zp ?_ ?_<;>first|exact⟨⟩|intro h)|refine ay.mk _ (bI aa) ?_|refine ay.mk _ (cU aa) ?_|refine zo ?_)<;>refine zk ?_)
           have hnn:n=c.b.l.length:=aa
           generalize hg2:snap _ 20 _=rr
           obtain rfl:=hg2.symm.trans (qT (n:=19) (nR (n:=18) (aJ rfl (aJ rfl (aJ rfl (aJ rfl (aJ rfl (aJ rfl (aJ (gu (f:=Bd.cells) (l:=(kk c q tl nb).b.l) (n:=17) (fun _=>rfl) rfl (Jz hnn) (by simp[kk])) rfl)))))))) rfl)
           exact⟨kk c q tl nb,_,[],rfl,Told.nil,by rw[hme] at *;exact mR.mk' (fB.start k []) htd (R:=[]) rfl hnb1 (by rw[hnb2];rfl) hkw⟩
 . have hx0 : fB k c.b.l[q].ins.l m (o :: os) (t :: ts) (r :: rs) := hx
   have h1:=hx0.ml;have h2:=hx0.tol;simp only[length_cons] at h2;omega
end Go.Ago
end
