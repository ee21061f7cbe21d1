/-
  Part B44: lemmas, each with its own conditions.
-/
import Derived.Test.YthaolifcglpkdaaGreatDoorB38
import Derived.Test.YthaolifcglpkdaaGreatDoorB39
import Derived.Test.YthaolifcglpkdaaGreatDoorB41
set_option maxRecDepth 100000
set_option maxHeartbeats 0
set_option linter.all false
section
namespace Go.Ago
open Go.Proofs List Nat Tryz
attribute [local irreducible] bA bw aV bp bG wr aZ bF comp DC DP DW DV
attribute [local irreducible] du ct aL cE dE dm dR dL bU dw dG bK bn bB eh aR a_
inductive n4|z|s (m:Nat) (o:Int) (os:List Int) (t:Int) (ts:List Int) (r:Ins) (rs:List Ins)
structure fE (k:Int)(is:List Ins)(m:Nat)(of tg:List Int)(rows:List Ins):Prop where
 ml:m≤is.length
 rw:rows=dC k (is.take m)
 ow:of=cI k 0 (is.take m)
 tw:tg=eM k is m
theorem fE.rl {k:Int}{is:List Ins}{m:Nat}{of tg:List Int}{rows:List Ins}(h:fE k is m of tg rows):rows.length≤4 * m:=by
 have h1:=@Dq k (is.take m);rw[<-h.rw,zbA,zcw h.ml] at h1;exact h1
theorem fE.gU {k:Int}{is:List Ins}{m:Nat}{of tg:List Int}{rows:List Ins}(h:fE k is m of tg rows):of.length≤4 * m:=by
 have h1:=h.rl;rw[h.rw] at h1;rw[h.ow,uV];exact h1
theorem fE.tol {k:Int}{is:List Ins}{m:Nat}{of tg:List Int}{rows:List Ins}(h:fE k is m of tg rows):tg.length=m:=by rw[h.tw,Ns]
theorem fE.Nx {k:Int}{is:List Ins}{m:Nat}{of tg:List Int}{rows:List Ins}(h:fE k is m of tg rows):∀x∈tg,0≤x:=fun x hx=>by
 rw[h.tw] at hx;unfold eM at hx;obtain⟨n,_,rfl⟩:=zbG.1 hx;exact zdd _
def pj (k:Int)(i:Ins)(out:List Ins)(n:Int):Prop:=out=b_ k i∧n=(bX i:Int)
theorem O8 {k:Int}{i y:Ins}(h:y∈b_ k i):y.op=3∨(y.op=i.op∧y.p=i.p∧y.n=i.n∧y.m=i.m):=by
 obtain⟨s,hs,rfl⟩:=zbo.1 h;rcases ud (zbf hs) with⟨_,_,_,e⟩|⟨_,_,e⟩|⟨_,e⟩|⟨_,_,_,e⟩
 . rw[e];exact .inl rfl
 . rw[e];exact .inl rfl
 . rw[e];exact .inr ⟨rfl,rfl,rfl,rfl⟩
 . rw[e];exact .inl rfl
theorem fE.old {k:Int}{is:List Ins}{m:Nat}{of tg:List Int}{rows:List Ins}(h:fE k is m of tg rows):∀y∈rows,z_ is y:=fun y hy=>by
 rw[h.rw] at hy;unfold dC at hy;obtain⟨i,hi,hy⟩:=mem_flatMap.1 hy;rcases O8 hy with e|e
 . exact .inl e
 . exact .inr ⟨i,zcU hi,e⟩
def n4.ok (k:Int)(is:List Ins):n4->Prop
 | .z=>True
 | .s m o os t ts r rs=>fE k is m (o::os) (t::ts) (r::rs)
def n4.m:n4->Nat
 | .z=>0
 | .s m _ _ _ _ _ _=>m
theorem fE.start (k:Int)(is:List Ins):fE k is 0 [] [] []:=⟨zbq _,rfl,rfl,rfl⟩
theorem Ax {k:Int}{i:Ins}{out:List Ins}{n:Int}(h:pj k i out n):1≤out.length∧out.length≤4:=by rw[h.1];exact AB
theorem Aw {k:Int}{i:Ins}{out:List Ins}{n:Int}(h:pj k i out n):∃y ys,out=y::ys:=by
 have:=(Ax h).1;rcases out with _|⟨y,ys⟩
 . simp at this
 . exact⟨y,ys,rfl⟩
theorem fE.next {k:Int}{is:List Ins}{m:Nat}{of tg of':List Int}{rows out:List Ins}(h:fE k is m of tg rows)(hm:m<is.length){n:Int}(hb:pj k is[m] out n){j:Nat}(h1:of'=of++(dW k m is[m]).take j)(h2:out.length≤j){x:Int}(hx:x=(rows.length:Int)):fE k is (m+1) of' (tg++[x]) (rows++out):=by
 refine⟨hm,by rw[Ky hm,h.rw,hb.1],?_,?_⟩
 . rw[h1,of_next hm,h.ow,zbj (l:=dW k m is[m]) (by rw[sA,<-hb.1];exact h2)]
 . rw[Nt,h.tw,hx,h.rw]
theorem Ji {k:Int}{i:Ins}{out:List Ins}{n:Int}(hb:pj k i out n){m j:Nat}{base l:List Int}(h:l=base++(dW k m i).take j)(hj:j≤out.length):l.length=base.length+j:=by
 rw[h,zbk,zbA,sA,<-hb.1,zcw hj]
theorem CU {k:Int}{i:Ins}{out:List Ins}{n:Int}(hb:pj k i out n){m j:Nat}(hj:j<out.length){base l:List Int}(h:l=base++(dW k m i).take j)(he:(j:Int)=n):l++[(m:Int)]=base++(dW k m i).take (j+1):=by
 have hlt:j<(b_ k i).length:=by rw[<-hb.1];exact hj
 have hat:=CN (k:=k) (n:=m) hlt;have hl:j<(dW k m i).length:=by rw[sA];exact hlt
 rw[zbf hl,if_pos (by have:=hb.2;omega)] at hat
 rw[zbi hl,zbE hat,h,zch]
theorem CR {k:Int}{i:Ins}{out:List Ins}{n:Int}(hb:pj k i out n){m j:Nat}(hj:j<out.length){base l:List Int}(h:l=base++(dW k m i).take j)(he:¬(j:Int)=n):l++[-1]=base++(dW k m i).take (j+1):=by
 have hlt:j<(b_ k i).length:=by rw[<-hb.1];exact hj
 have hat:=CN (k:=k) (n:=m) hlt;have hl:j<(dW k m i).length:=by rw[sA];exact hlt
 rw[zbf hl,if_neg (by have:=hb.2;omega)] at hat
 rw[zbi hl,zbE hat,h,zch]
def mQ (c:Cd)(k:Int)(q:Nat)(is:List Ins)(ah:Int)(out:Cd)(of:List Int):Prop:=
 ∃nb:Bd,out=ku c q (eM k is (is.length+1)) nb∧nb.ah=k+ah∧nb.ins.l=((dC k is).map fun i=>cB i (eM k is (is.length+1))).map (bT q (eM k is (is.length+1)))∧of=cI k 0 is
theorem mQ.mk' {c:Cd}{k kn:Int}{q:Nat}{is:List Ins}{ah:Int}{of tg tl:List Int}{rows R:List Ins}{nb:Bd}(h:fE k is is.length of tg rows)(ht:tg++[(rows.length:Int)]=tl)(hR:R=rows.map fun i=>cB i tl)(h1:nb.ah=kn)(h2:nb.ins.l=R.map (bT q tl))(hk:kn=k+ah) :
 mQ c k q is ah (ku c q tl nb) of:=by
 have e1:rows=dC k is:=by have:=h.rw;rw[zcI] at this;exact this
 have e2:of=cI k 0 is:=by have:=h.ow;rw[zcI] at this;exact this
 have e3:tl=eM k is (is.length+1):=by rw[Nt,<-ht,h.tw,zcI,e1]
 subst e3;exact⟨nb,rfl,h1.trans hk,by rw[h2,hR,e1],e2⟩
theorem S5 {α:Type}{f:α->List AV}{ρ:Nat->Nat}(hf:∀x,(f x).map (AV.r1 ρ)=f x){y:α}{acc ys:List α}{n:Nat}(h:n=acc.length+1) :
 List.take n (List.drop 0 (f y::acc.map f))++ys.map f=(f y::(acc++ys).map f).map (List.map (AV.r1 ρ)):=by
 subst h;have h1:List.take acc.length (acc.map f)=acc.map f:=zbj ag;simp[hf,zcA,h1]
theorem S6 {α:Type}{f:α->List AV}{y t:α}{acc:List α}{new:List (List AV)}(hn:new=[f t]){n:Nat}(h:n=acc.length+1):List.take n (List.drop 0 (f y::acc.map f))++new=(y::(acc++[t])).map f:=by
 subst hn;subst h;have h1:List.take acc.length (acc.map f)=acc.map f:=zbj ag;simp[h1]
theorem On {α:Type}{f:α->List AV}{a:Nat}{y t:α}{acc:List α}{new:List (List AV)}(hn:new=[f t])(h:a=acc.length+1):a+new.length=(y::(acc++[t])).length:=by
 subst hn;subst h;simp
theorem gR {ρ:Nat->Nat}{s:Nat}{l:List Ins}{es:List (List AV)}(h:es=l.map Ins.cells):an.arr s es=an.cp ρ (.arr s (l.map Ins.cells)):=by
 subst h;simp only[an.cp,zcz];congr 1
theorem jO {n s:Nat}{l:List Ins}:an.lt n (.arr s (l.map Ins.cells)):=by
 show(List.all _ _)=true;rw[all_map,zbr];intro x _;rfl
theorem SH {nm sz len n:Nat}{rows:List (List AV)}{l:List Int}(h:rows=l.map ic)(hl:len=l.length)(hs:sz=1):snap (.put nm (some (.arr sz rows)) .nil) (n+2) (.ay nm 0 len sz)=some (.ak 1 (l.map ic)):=by
 subst h;subst hl;subst hs;exact fj (f:=ic) (l:=l) (n:=n+1) (fun _=>rfl) (by rw[Tr.get,zcK];rfl) rfl rfl
abbrev ec (tl:List Int):Ins->Ins:=fun i=>cB i tl
theorem YL {tl:List Int}{rows:List Ins}{r:Ins}{rs:List Ins}{ρ:Nat->Nat}(h:r::rs=rows):an.arr 29 (r.cells::rs.map Ins.cells)=an.cp ρ (.arr 29 ((bq (ec tl) rows 0).map Ins.cells)):=by
 subst h;rw[pU];exact eg (f:=Ins.cells) (fun _=>rfl)
theorem WL {is:List Ins}{n:Int}{tl:List Int}(hv:∀i∈is,InsV n is.length i)(h0:∀x∈tl,0≤x)(hn:tl.length=is.length+1){i:Ins}(ho:z_ is i){x:Int}(hx:x∈bP i):rj tl x:=by
 have key:∀x:Int,0≤x∧x≤(is.length:Int)->rj tl x:=fun x hx=>⟨hx.1,aa,h0 _ (za9 _)⟩
 rcases ho with ho|⟨i0,h1,h2,h3,h4,h5⟩
 . unfold bP at hx
   rw[if_neg aa,if_neg aa] at hx;cases hx
 . refine key x ((hv i0 h1).t x ?_)
   unfold bP at hx ⊢;rw[h2,h4,h5] at hx;exact hx
theorem YK {tl:List Int}{rows:List Ins}(h:∀i∈rows,∀x∈bP i,rj tl x){j:Nat}(hj:j<rows.length){i:Ins}(hi:i=rows[j]):∀x∈bP i,rj tl x:=by
 subst hi;exact h _ (za9 hj)
theorem YJ {tl:List Int}{rows:List Ins}{j:Nat}(h:j<rows.length):((bq (ec tl) rows j).map Ins.cells).set (0+((j:Nat):Int).toNat) (cB ((bq (ec tl) rows j)[((j:Int)).toNat]'(by rw[gK];simpa using h)) tl).cells=(bq (ec tl) rows (j+1)).map Ins.cells:=by
 have e:(bq (ec tl) rows j)[((j:Int)).toNat]'(by rw[gK];simpa using h)=rows[j]:=rO h (by rw[gK];exact h)
 rw[e,zce,zbt,<-zcD,rP h]
theorem sQ {α:Type}{f:α->List AV}(h:∀x,((f x).all AV.one)=true){l:List α}:((l.map f).all fun e=>e.all AV.one)=true:=
 zbr.2 fun e he=>by obtain⟨x,_,rfl⟩:=zbG.1 he;exact h x
theorem rq (B:Nat){add by_:Nat}(hb:by_=B)(hl:add≤10000)(h4:10000 * (B+1)≤140737488355328):ble (add * (by_+1)) 140737488355328=true:=by
 subst hb;exact zbs (zbu (zbx _ hl) h4)
theorem rv (B:Nat){i len el add by_:Nat}(h3:i+len≤el)(hb:by_=B)(hl:len+add≤10000)(h4:10000 * (B+1)≤140737488355328) :
 (ble (i+len) el && ble ((len+add) * (by_+1)) 140737488355328)=true:=by
 subst hb;rw[zbs h3,zbs (zbu (zbx _ hl) h4)];rfl
inductive B3|pre (n:Nat)|post (n:Nat)
def B3.ok (q len:Nat):B3->Prop
 | .pre n=>n≤q
 | .post n=>q<n∧n≤len
def B3.n:B3->Nat
 | .pre n=>n
 | .post n=>n
theorem C3 {q:Nat}{tl:List Int}{b:Bd}(h:b.ins.l=[]):(kk q tl b).cells=[i64 b.ah,.ak 29 []]:=by show[i64 b.ah,.ak 29 ((b.ins.l.map _).map Ins.cells)]=_;rw[h];rfl
theorem JP {q:Nat}{tl:List Int}{l:List Bd}{nb:Bd}{n:Nat}(h:n=l.length):dB q tl l nb n=((l.map (kk q tl)).set q nb).map Bd.cells:=by rw[dB,pV h]
theorem Xg {q:Nat}{tl:List Int}{l:List Bd}{nb:Bd}{e:List AV}(h:e=nb.cells):(l.map Bd.cells).set (0+((q:Int)).toNat) e=dB q tl l nb 0:=by subst h;simp[dB,pU]
theorem JN {q:Nat}{tl:List Int}{l:List Bd}{nb:Bd}{n m:Nat}(hm:m=q)(h:q<l.length){e:List AV}(he:nb.cells=e):(dB q tl l nb n)[m]? = some e:=by
 subst hm;subst he;show(List.map _ _)[_]? = _;rw[zbC,zci (by rw[gK];exact h)]
 rfl
theorem JO {q:Nat}{tl:List Int}{l:List Bd}{nb:Bd}{n:Nat}(h:n<l.length)(hn:n=q):dB q tl l nb n=dB q tl l nb (n+1):=by
 subst hn;show List.map _ _=List.map _ _;rw[GN h]
def B3.WJ (len:Nat):B3->Prop
 | .pre _=>False
 | .post n=>n≤len
theorem SJ {q n:Nat}{tl:List Int}{l:List Bd}{kn:Int}{k len:Nat}{nb:Bd}{nm:Nat}{o:an}{L:List Ins}(hn:n=q)(h:q<l.length)(hf:fC nm o (.ay k 0 len 29) (.ak 29 (L.map Ins.cells)))(hb:nb.cells=[i64 kn,.ak 29 (L.map Ins.cells)]) :
 iu nm o (.arr 2 (eW q tl l kn k len n)) (.arr 2 (dB q tl l nb (n+1))):=by
 subst hn;exact SI h hf hb
theorem gD (l:List Ins)(h:l=[]):af 19 [mc l] (fun ae=>ae = .ret (.ak 29 [])):=by subst h;exact QD
structure tU (c:Cd)(k:Int)(q n:Nat):Prop where
 hq:q<c.b.l.length
 eT:c.b.l.length≤100
 hk:4≤k∧k≤4000
 hn:n≤64
 rg:c.b.l[q].ah=(n:Int)
 len:c.b.l[q].ins.l.length≤1000
 iv:∀i∈c.b.l[q].ins.l,InsV (n:Int) c.b.l[q].ins.l.length i
 fH:∀i∈c.b.l[q].ins.l,i.l.l.length≤40
 gto:tJ c (q:Int) c.b.l[q].ins.l.length
 all:∀b∈c.b.l,b.ins.l.length≤10000
 mv:∀i∈c.b.l[q].ins.l,i.op=3->0≤i.a
theorem InsV.hi {n:Nat}{m:Nat}{i:Ins}(h:InsV (n:Int) m i):i.a<n∧i.b<n∧i.d<n∧∀r∈i.l.l,r<n:=
 ⟨h.a.elim (fun e=>aa) (·.2),h.b.elim (fun e=>aa) (·.2),h.d.elim (fun e=>aa) (·.2),fun r hr=>(h.l r hr).2⟩
theorem Ay (i:Ins)(k:Int)(n:Nat)(hk:4≤k∧k<100000)(hn:n≤1000)(hl40:i.l.l.length≤40)(hr:i.a<n∧i.b<n∧i.d<n∧∀r∈i.l.l,r<n)(hmv:i.op=3->0≤i.a) :
 af 91 [i.av,i64 k,.fn (.func 89) [] [.bm [aT (a_ n)]],.bool true] (fun ae=>∃out at_,ae = .ret (.ao [mc out,i64 at_])∧pj k i out at_):=by
 refine(OR i k n hk hn hl40 hr hmv).told ?_
 rintro _ ⟨rows,at_,rfl,hb,ht⟩
 exact⟨_,.ao [mc (b_ k i),i64 at_],rfl,Told.ao ⟨Told.rows ht,.r,trivial⟩,b_ k i,at_,rfl,rfl,hb⟩
attribute [local irreducible] eW dB bq bT kk
theorem Zq (c:Cd)(k:Int)(q n:Nat)(h:tU c k q n)(h0:∀hq:q<c.b.l.length,c.b.l[q].ins.l.length=0) :
 af 46 [c.av,i64 k,i64 q,aT (a_ n),.bool true] (fun ae=>∃(out:Cd) (v:AV) (of:List Int),ae = .ret (.ao [out.av,v])∧Told v (aT of)∧mQ c k q (c.b.l[q]'h.hq).ins.l (c.b.l[q]'h.hq).ah out of):=by
 obtain⟨hq,h70,hk,hn,hrg,hlen,hiv,hlst,hgto,hall,hmv⟩:=h;have hz:=h0 hq;have hcl:=c.b.h;have cF:c.b.l≠[]:=fun e=>by rw[e] at hq;simp at hq
 refine zw func46 ?_;refine zk ?_
 repeat' ((first|refine az.mk _ (bO (l:=c.b.l) (i:=q) hq) ?_|(refine zp ?_ ?_<;>first|exact⟨⟩|intro h)|refine az.mk _ (bO aa) ?_|refine az.mk _ (dA aa) ?_|refine zo ?_)<;>refine zk ?_)
 have hkw:wr .i64 (k+(c.b.l[q]).ah)=k+(c.b.l[q]).ah:=aE aa aa
 generalize hkn:wr .i64 (k+(c.b.l[q]).ah)=kn at hkw
 refine DW.ot 1 (.arr 1 [[aT (a_ n)]]) [(1,_),(2,_),(4,_),(5,_),(10,_),(11,_),(12,(.fn (.func 89) [] [.bm [aT (a_ n)]])),(13,_),(42,_),(43,_),(44,_),(14,_),(15,_)] [(0,_),(2,_),(15,_)] rfl ⟨⟨_,rfl,.inl rfl⟩,⟨⟨_,rfl,.inl rfl⟩,⟨⟨_,rfl,.inl rfl⟩,⟨⟨_,rfl,.inl rfl⟩,⟨⟨_,rfl,.inl rfl⟩,⟨⟨_,rfl,.inl rfl⟩,⟨⟨_,rfl,.inr rfl⟩,⟨⟨_,rfl,.inl rfl⟩,⟨⟨_,rfl,.inl rfl⟩,⟨⟨_,rfl,.inl rfl⟩,⟨⟨_,rfl,.inl rfl⟩,⟨⟨_,rfl,.inl rfl⟩,⟨⟨_,rfl,.inl rfl⟩,trivial⟩⟩⟩⟩⟩⟩⟩⟩⟩⟩⟩⟩⟩ ⟨⟨ab,_,rfl,.inl rfl⟩,⟨⟨ab,_,rfl,.inl rfl⟩,⟨⟨ab,_,rfl,.inl rfl⟩,trivial⟩⟩⟩ ?_;refine DW.aO aC aD [1, 2, 4, 5, 10, 11, 12, 13, 42, 43] [15] 8000 (fun x:{x:n4 // x.ok k c.b.l[q].ins.l}=>match x.1 with
  | .z=>[(44,i64 ((0:Nat):Int)),(14,.ai),(15,.ai)]
  | .s m o os t ts r rs => [(44, i64 m), (14, .ay 1000 0 ((os.map ic).length + 1) 1), (15, .ay 2000 0 ((ts.map ic).length + 1) 1)]) (fun x=>match x.1 with
  | .z=>[(15,.arr 2 [[i64 kn,.ai]])]
  | .s m o os t ts r rs=>[(15,.arr 2 [[i64 kn,.ay 3000 0 ((rs.map Ins.cells).length+1) 29]]),(1000,.arr 1 (ic o::os.map ic)),(2000,.arr 1 (ic t::ts.map ic)),(3000,.arr 29 (r.cells::rs.map Ins.cells))]) [(1000,.slot 14),(2000,.slot 15),(3000,.cell 15 1)] (fun x=>c.b.l[q].ins.l.length+1 - x.1.m) (⟨.z,trivial⟩) ?_
 refine zl fun x=>?_
 rcases x with⟨_|⟨m,o,os,t,ts,r,rs⟩,hx⟩
 . have hx0 := fE.start k c.b.l[q].ins.l
   have hmb:0≤c.b.l[q].ins.l.length:=zbq _;refine zk ?_
   repeat' ((first|refine Rq.mk (sQ (f:=Ins.cells) (fun _=>rfl)) ?_|(refine Rq.mk (rq 304 rfl gX ab) ?_)|refine zf ?_|refine Br.t (b:=beq _ _) rfl ?_|(refine Rq.mk (eP 8 8000 ag rfl rfl gX ab) ?_)|(refine Rq.mk (rv 304 ag rfl gX ab) ?_)|refine az.mk _ (bO (l:=c.b.l[q].ins.l) (i:=0) aa) ?_|(refine zp ?_ ?_<;>first|exact⟨⟩|intro h)|refine az.mk _ (bO aa) ?_|refine az.mk _ (dA aa) ?_|(refine DC.pure rfl (Ay (c.b.l[q].ins.l[0]'aa) k n ⟨hk.1,aa⟩ aa (hlst _ (za9 _)) (hiv _ (za9 _)).hi (hmv _ (za9 _))) ?_;rintro _ ⟨out,at_,rfl,hb⟩;obtain⟨y0,ys,rfl⟩:=Aw hb)|refine zo ?_)<;>refine zk ?_)
   . have hme : c.b.l[q].ins.l = [] := zbh aa
     refine DW.ot 8033 _ [(2,_),(5,_),(10,_),(11,_),(13,_),(14,_),(15,.ak 1 ([(0:Int)].map ic)),(92,_),(93,_),(94,_)] [(0,_),(2,_),(15,_)] rfl ⟨⟨_,rfl,.inl rfl⟩,⟨⟨_,rfl,.inl rfl⟩,⟨⟨_,rfl,.inl rfl⟩,⟨⟨_,rfl,.inl rfl⟩,⟨⟨_,rfl,.inl rfl⟩,⟨⟨_,rfl,.inl rfl⟩,⟨⟨_,rfl,.inr rfl⟩,⟨⟨_,rfl,.inl rfl⟩,⟨⟨_,rfl,.inl rfl⟩,⟨⟨_,rfl,.inl rfl⟩,trivial⟩⟩⟩⟩⟩⟩⟩⟩⟩⟩ ⟨⟨ab,_,rfl,.inl rfl⟩,⟨⟨ab,_,rfl,.inl rfl⟩,⟨⟨ab,_,rfl,.inl rfl⟩,trivial⟩⟩⟩ ?_
     generalize htd:[(0:Int)]=tl
     have htl1:tl.length=1:=by rw[<-htd];rfl
     refine DW.aO aC aD [2,5,10,11,13,14,15,92,93] [] 300 (fun x:Nat=>[(94,i64 (0:Int))]) (fun _=>[]) [] (fun x=>x) (0) ?_
     refine zl fun x=>?_
     refine zk ?_
     repeat' ((first|(refine DC.lZ (args2:=[c.av,i64 q,.agg [i64 kn,.ak 29 []]]) ⟨.inl .r,.inl .r,.inl (.inr ⟨_,_,rfl,rfl,.r,.n,trivial⟩),trivial⟩ ?_;refine zd func44 ?_)|refine DV.new rfl (rA c.b.l cF h70) ry rfl ?_|(refine bR (eV (l:=c.b.l) (n:=(q:Int)) eE) ?_)|(refine az.mk _ (eV (l:=c.b.l) (n:=(q:Int)) eE) ?_)|(refine zp ?_ ?_<;>first|exact⟨⟩|intro h)|refine az.mk _ (bO aa) ?_|refine az.mk _ (dA aa) ?_|refine zo ?_)<;>refine zk ?_)
     . have hinb:∀(n:Nat) (hn:n<c.b.l.length),∀i∈c.b.l[n].ins.l,i.op=16->i.p=(q:Int)->0≤i.n∧i.n.toNat<tl.length:=fun n hn i hi h h2=>by
        have:=hgto _ (za9 hn) i hi h h2;omega
       obtain⟨nb,hnb1,hnb2⟩:∃nb:Bd,nb.ah=kn∧nb.ins.l=[]:=⟨⟨kn,⟨[],ag⟩⟩,rfl,rfl⟩;have hnb3:nb.cells=[i64 kn,.ak 29 []]:=by rw[Bd.cells,hnb1,hnb2];rfl
       have hlenall:∀(n:Nat) (h:n<c.b.l.length),c.b.l[n].ins.l.length≤10000:=fun n h=>hall _ (za9 h)
       refine DW.ot 8347 _ [(2,i64 q),(10,_),(11,.ai),(14,.ai),(15,.ak 1 (tl.map ic)),(23,.ptr 8344 0 0),(116,_),(117,_)] [(2,_),(8344,.arr 7 [[mn c.p.procs.l,i64 c.p.static,nj c.p.image.l,pY c.p.files.l,.ak 1 (c.p.conds.l.map fun s=>[.str s.l]),aT c.p.dv.l,.ay 8353 0 c.b.l.length 2]]),(8353,.arr 2 (dB q tl c.b.l nb 0))] rfl ⟨⟨_,rfl,.inl rfl⟩,⟨⟨_,rfl,.inl rfl⟩,⟨⟨_,rfl,.inl rfl⟩,⟨⟨_,rfl,.inl rfl⟩,⟨⟨_,rfl,.inl rfl⟩,⟨⟨_,rfl,.inl rfl⟩,⟨⟨_,rfl,.inl rfl⟩,⟨⟨_,rfl,.inl rfl⟩,trivial⟩⟩⟩⟩⟩⟩⟩⟩ ⟨⟨ab,_,rfl,.inl rfl⟩,⟨⟨ab,_,rfl,.inl rfl⟩,⟨⟨ab,_,rfl,.inl (zbc (an.arr 2) (Xg hnb3.symm).symm)⟩,trivial⟩⟩⟩ ?_
       refine DW.Ct aC aD [2, 10, 11, 14, 15, 23, 116] [8353] 20000 (fun x:{x:B3 // x.WJ c.b.l.length}=>match x.1 with
        | .pre n=>[(117,i64 n)]
        | .post n => [(117, i64 n)]) (fun x=>match x.1 with
        | .pre n=>[]
        | .post n=>[(8353,.arr 2 (dB q tl c.b.l nb n))]) [] (fun x=>c.b.l.length+1 - x.1.n) (⟨.post 0,zbq _⟩) ?_
       conv=>whnf
       refine⟨?_,fun x=>?_⟩
       . conv => whnf
         (exact zK)
       rcases x with⟨⟨n⟩|⟨n⟩,hx⟩
       . exact hx.elim
       . have hx0 : n ≤ c.b.l.length := hx
         by_cases hnl:n<c.b.l.length
         . by_cases hnq : n = q
           . have hx1 : n = q := hnq
             refine zk ?_
             repeat' ((first|(refine DC.pure rfl (gD _ hins) ?_;rintro _ rfl)|(refine zh rfl (gD _ hins) ?_;rintro _ rfl)|(refine DV.new rfl (kb _ hins mE) kg rfl ?_)|(refine bR (by first|exact JN eE hq hnb3|exact sC rfl tB|exact C8 ag aa hnq|exact sG eE hq|exact C7 ag aa aa) ?_)|(refine az.mk _ (by first|exact JN eE hq hnb3|exact sC rfl tB|exact C8 ag aa hnq|exact sG eE hq|exact C7 ag aa aa) ?_)|(refine zp ?_ ?_<;>first|exact⟨⟩|intro h)|refine az.mk _ (bO aa) ?_|refine az.mk _ (dA aa) ?_|refine zo ?_)<;>refine zk ?_)
             refine DW.aO aC aD [2,10,11,14,15,23,116,117,141] [8353] 500 (fun y:Nat=>[(142,i64 (0:Int))]) (fun _=>[(8353,.arr 2 (dB q tl c.b.l nb (n+1)))]) [] (fun y=>y) (0) ?_
             conv=>whnf
             refine⟨?_,fun y=>?_⟩
             . conv => whnf
               (repeat' first|exact True.intro|apply And.intro|rfl|exact qz (s:=2) rfl|exact qz (s:=2) (JO hnl hnq)|exact yh (s:=2)|exact eg (sz:=1) (f:=ic) (fun _=>by rfl)|exact c_ (sz:=1) (f:=ic) (fun _=>by rfl)|(refine cw ?_ ?_ ?_<;>(try dsimp only)<;>omega)|exact zbc (AV.int .i64) cV)
             refine zg ?_
             repeat' ((first|(refine zp ?_ ?_<;>first|exact⟨⟩|intro h)|refine zo ?_)<;>refine zg ?_)
             all_goals first
              | (refine ⟨⟨.post (n + 1), tt⟩, _, iQ.r, ?_, rfl, (show _ - _ < _ - _ from (by simp only [B3.n]; omega))⟩
                 conv=>whnf
                 (repeat' first|exact True.intro|apply And.intro|rfl|exact qz (s:=2) rfl|exact qz (s:=2) (JO hnl hnq)|exact yh (s:=2)|exact eg (sz:=1) (f:=ic) (fun _=>by rfl)|exact c_ (sz:=1) (f:=ic) (fun _=>by rfl)|(refine cw ?_ ?_ ?_<;>(try dsimp only)<;>omega)|exact zbc (AV.int .i64) cV))
           . by_cases hins : c.b.l[n].ins.l = []
             . skip
               refine zk ?_
               repeat' ((first|(refine DC.pure rfl (gD _ hins) ?_;rintro _ rfl)|(refine zh rfl (gD _ hins) ?_;rintro _ rfl)|(refine DV.new rfl (kb _ hins mE) kg rfl ?_)|(refine bR ij ?_)|(refine az.mk _ ij ?_)|(refine zp ?_ ?_<;>first|exact⟨⟩|intro h)|refine az.mk _ (bO aa) ?_|refine az.mk _ (dA aa) ?_|refine zo ?_)<;>refine zk ?_)
               refine DW.aO aC aD [2,10,11,14,15,23,116,117,141] [8353] 500 (fun y:Nat=>[(142,i64 (0:Int))]) (fun _=>[(8353,.arr 2 (dB q tl c.b.l nb (n+1)))]) [] (fun y=>y) (0) ?_
               conv=>whnf
               refine⟨?_,fun y=>?_⟩
               . conv => whnf
                 (exact zI)
               refine zg ?_
               repeat' ((first|(refine zp ?_ ?_<;>first|exact⟨⟩|intro h)|refine zo ?_)<;>refine zg ?_)
               all_goals first
                | (refine ⟨⟨.post (n + 1), tt⟩, _, iQ.r, ?_, rfl, (show _ - _ < _ - _ from (by simp only [B3.n]; omega))⟩
                   conv=>whnf
                   (exact zI))
             . skip
               refine zk ?_
               repeat' ((first|(refine DC.pure rfl (gD _ hins) ?_;rintro _ rfl)|(refine zh rfl (gD _ hins) ?_;rintro _ rfl)|(refine DV.new rfl (kb _ hins mE) kg rfl ?_)|(refine bR ij ?_)|(refine az.mk _ ij ?_)|(refine zp ?_ ?_<;>first|exact⟨⟩|intro h)|refine az.mk _ (bO aa) ?_|refine az.mk _ (dA aa) ?_|refine zo ?_)<;>refine zk ?_)
               refine DW.aO aC aD [2,10,11,14,15,23,24,116,117,140,141] [8353,28384] 500 (fun y:{w:Nat // w≤c.b.l[n].ins.l.length}=>[(142,i64 y.1)]) (fun y=>[(8353,.arr 2 ((dB q tl c.b.l nb n).set n (je c.b.l[n].ah 28384 c.b.l[n].ins.l.length))),(28384,.arr 29 ((bq (bT q tl) c.b.l[n].ins.l y.1).map Ins.cells))]) [] (fun y=>c.b.l[n].ins.l.length+1 - y.1) (⟨0,zbq _⟩) ?_
               conv=>whnf
               refine⟨?_,fun y=>?_⟩
               . conv => whnf
                 (repeat' first|exact True.intro|apply And.intro|rfl|exact gR (s:=29) (by rw[pU])|exact jO (s:=29)|exact yj (s:=2) (by first|rfl|(congr 1;simp)) aB|exact yi (s:=2) aB|exact eg (sz:=1) (f:=ic) (fun _=>by rfl)|exact c_ (sz:=1) (f:=ic) (fun _=>by rfl)|(refine cw ?_ ?_ ?_<;>(try dsimp only)<;>omega)|exact zbc (AV.int .i64) cV)
               rcases y with⟨y,hy⟩
               have hln:=hlenall n hnl;have hyl:(bq (bT q tl) c.b.l[n].ins.l y).length=c.b.l[n].ins.l.length:=gK (bT q tl) c.b.l[n].ins.l;have hpat:∀h:y<c.b.l[n].ins.l.length,((bq (bT q tl) c.b.l[n].ins.l y)[((y:Int)).toNat]'jo).op=16->((bq (bT q tl) c.b.l[n].ins.l y)[((y:Int)).toNat]'jo).p=(q:Int)->0≤((bq (bT q tl) c.b.l[n].ins.l y)[((y:Int)).toNat]'jo).n∧((bq (bT q tl) c.b.l[n].ins.l y)[((y:Int)).toNat]'jo).n.toNat<tl.length:=fun h=>by
                rw[sD h];exact hinb n hnl _ (za9 h)
               (try dsimp only at hy)
               refine zk ?_
               repeat' ((first|(refine bR th ?_)|(refine az.mk _ th ?_)|(refine Rq.mk zO ?_)|(refine zb ?_ ?_<;>(first|exact⟨⟩|intro h)<;>try (exfalso;(first|omega|(have hpa:=hpat aa;omega))))|(refine az.mk _ (bO o9) ?_)|(refine az.mk _ (dA o9) ?_)|refine zo ?_)<;>refine zk ?_)
               all_goals first
                | (refine ⟨⟨y + 1, aa⟩, ?_, rfl, bH⟩
                   conv=>whnf
                   (repeat' first|exact True.intro|apply And.intro|rfl|exact gR (s:=29) (ya (q:=q) (tl:=tl) (L:=c.b.l[n].ins.l) (j:=y) aa aa (zbc Ins.cells (x_ aa aa).symm))|exact gR (s:=29) (yb (q:=q) (tl:=tl) (L:=c.b.l[n].ins.l) (j:=y) aa aa aa)|exact jO (s:=29)|exact yj (s:=2) (by first|rfl|(congr 1;simp)) aB|exact yi (s:=2) aB|exact eg (sz:=1) (f:=ic) (fun _=>by rfl)|exact c_ (sz:=1) (f:=ic) (fun _=>by rfl)|(refine cw ?_ ?_ ?_<;>(try dsimp only)<;>omega)|exact zbc (AV.int .i64) cV))
                | (refine ⟨⟨.post (n + 1), tt⟩, _, iQ.z 28384 _ [(2, _), (10, _), (11, _), (14, _), (15, _), (23, _), (116, _), (117, _)] [(2, _), (8344, _), (8353, .arr 2 (dB q tl c.b.l nb (n + 1)))] rfl ⟨⟨_, rfl, .inl rfl⟩, ⟨⟨_, rfl, .inl rfl⟩, ⟨⟨_, rfl, .inl rfl⟩, ⟨⟨_, rfl, .inl rfl⟩, ⟨⟨_, rfl, .inl rfl⟩, ⟨⟨_, rfl, .inl rfl⟩, ⟨⟨_, rfl, .inl rfl⟩, ⟨⟨_, rfl, .inl rfl⟩, trivial⟩⟩⟩⟩⟩⟩⟩⟩ ⟨⟨ab, _, rfl, .inl rfl⟩, ⟨⟨ab, _, rfl, .inl rfl⟩, ⟨⟨ab, _, rfl, Hi hnl hnq rfl (xd (L := c.b.l[n].ins.l.map (bT q tl)) (by rw [pV (by omega : y = c.b.l[n].ins.l.length)]) (by simp only [zba, gK] <;> omega))⟩, trivial⟩⟩⟩, ?_, rfl, (show _ - _ < _ - _ from (by simp only [B3.n]; omega))⟩
                   conv=>whnf
                   (exact zK))
         . skip
           refine zk ?_
           repeat' ((first|(refine DC.pure rfl (gD _ hins) ?_;rintro _ rfl)|(refine zh rfl (gD _ hins) ?_;rintro _ rfl)|(refine DV.new rfl (kb _ hins mE) kg rfl ?_)|(refine bR ij ?_)|(refine az.mk _ ij ?_)|(refine zp ?_ ?_<;>first|exact⟨⟩|intro h)|refine az.mk _ (bO aa) ?_|refine az.mk _ (dA aa) ?_|refine zo ?_)<;>refine zk ?_)
           have hnn:n=c.b.l.length:=aa
           generalize hg2:snap _ 20 _=rr
           obtain rfl:=hg2.symm.trans (o3 (n:=19) (lM (n:=18) (aJ rfl (aJ rfl (aJ rfl (aJ rfl (aJ rfl (aJ rfl (aJ (fj (f:=Bd.cells) (l:=(ku c q tl nb).b.l) (n:=17) (fun _=>rfl) rfl (JP hnn) (by simp[ku])) rfl)))))))) rfl)
           exact⟨ku c q tl nb,_,[],rfl,Told.nil,by rw[hme] at *;exact mQ.mk' (fE.start k []) htd (R:=[]) rfl hnb1 (by rw[hnb2];rfl) hkw⟩
 . have hx0 : fE k c.b.l[q].ins.l m (o :: os) (t :: ts) (r :: rs) := hx
   have h1:=hx0.ml;have h2:=hx0.tol;simp only[zbd] at h2;omega
end Go.Ago
end
