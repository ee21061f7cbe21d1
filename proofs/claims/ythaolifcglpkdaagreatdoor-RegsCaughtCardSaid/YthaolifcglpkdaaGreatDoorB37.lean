/-
  Part B37: lemmas, each with its own conditions.
-/
import Derived.Ground.SlmcProg
import Derived.Shelf.SlGeneric
import Derived.Shelf.SlMaps.Clone
import Derived.Test.YthaolifcglpkdaaGreatDoorB36
set_option maxRecDepth 100000
set_option maxHeartbeats 0
set_option linter.all false
namespace Go.Ago
open Go.Proofs List Nat Tryz
attribute [local irreducible] bA bw aV bp bG wr aZ bF comp DC DP DW DV
theorem IJ (o:aI)(hi:bk o.l)(b:o.l.length≤100000)(r:Int):af 205 [i64 r,.bm (au o.all o.l)] (fun c=>c = .ret (.bool (!(o.has r)))):=by
 have k1:=qb o hi b r;exact zw func205 W
structure j4 (o:aI)(l:List Int)(n:Nat):Prop where
 le:n≤l.length
 lo:∀(i:Nat) (h:i<l.length),i<n->o.has l[i]=true
theorem j4.step {o:aI}{l:List Int}{n:Nat}(h:j4 o l n)(a:n<l.length)(e:o.has l[n]=true):j4 o l (n+1):=⟨a,fun i c d=>by
 by_cases b:i=n
 . grind
 exact h.lo i _ aa⟩
theorem TM (o:aI)(hi:bk o.l)(e:o.l.length≤100000)(l:List Int)(g:l.length≤100000):af 93 [aT l,.fn (.func 205) [] [.bm (au o.all o.l)]] (fun d=>∃n:Int,d = .ret (i64 n)∧((n = -1∧j4 o l l.length)∨∃m:Nat,n=(m:Int)∧j4 o l m∧∃h:m<l.length,o.has l[m]=false)):=by
 refine zw func93 ?_
 conv=>whnf
 refine DW.aO aC aD [0,1,4,7] [] 0 (fun x:{x:Nat // j4 o l x}=>[(8,i64 x.1)]) (fun _=>[]) [] (fun x=>l.length+1 - x.1) (⟨0,zbq _,fun i h f=>absurd f (zbK _)⟩) ?_
 refine zl fun x=>?_
 have a:=x.2;have c:=a.le;refine zg ?_
 repeat' ((first|(refine zp ?_ ?_<;>intro h)|(refine DC.pure rfl (IJ o hi e (l[x.1]'aa)) ?_;rintro _ rfl))<;>refine zg ?_)
 . exact⟨_,rfl,.inr ⟨x.1,rfl,a,aa,by assumption⟩⟩
 . refine ⟨⟨x.1 + 1, a.step aa bD⟩, ?_, rfl, bH⟩
   conv=>whnf
   (exact o8)
 . exact⟨-1,rfl,.inl ⟨rfl,⟨zbm _,fun i h _=>a.lo i h aa⟩⟩⟩
def dN (o:aI)(l:List Int)(n:Nat):List Int:=(l.take n).filter o.has
def ef (o:aI)(l:List Int)(n:Nat):List Int:=dN o l n++l.drop (dN o l n).length
theorem xc {o:aI}{l:List Int}{n:Nat}:(dN o l n).length≤n:=by
 unfold dN
 grind
theorem Hb {o:aI}{l:List Int}{n:Nat}:(dN o l n).length≤l.length:=by
 unfold dN
 grind
theorem CC {o:aI}{l:List Int}{n:Nat}:(ef o l n).length=l.length:=by
 have:=@Hb o l n;unfold ef
 grind
theorem Hf {o:aI}{l:List Int}{n:Nat}(h:n<l.length)(e:o.has l[n]=true):dN o l (n+1)=dN o l n++[l[n]]:=by
 unfold dN;rw[zbi h,zb5,filter_cons_of_pos e];rfl
theorem xa {o:aI}{l:List Int}{n:Nat}(h:n<l.length)(e:o.has l[n]=false):dN o l (n+1)=dN o l n:=by
 unfold dN;rw[zbi h,zb5,filter_cons_of_neg (by grind)];simp
theorem VV {o:aI}{l:List Int}{n:Nat}(h:n<l.length)(b:n<(ef o l n).length):(ef o l n)[n]=l[n]:=by
 have a:=@xc o l n;have e:(ef o l n)[n]? = some l[n]:=by
  unfold ef;rw[zbv a,zcF,show(dN o l n).length+(n - (dN o l n).length)=n by omega,zbf h]
 grind
theorem VW {o:aI}{l:List Int}{n:Nat}(h:n<l.length)(e:o.has l[n]=true):ef o l (n+1)=(ef o l n).set (dN o l n).length l[n]:=by
 have a:=@xc o l n;unfold ef;rw[Hf h e,set_append_right _ _ (ag),zcB,zch,zbk];rw[zcr (show(dN o l n).length<l.length by omega)]
 rfl
theorem CB {o:aI}{l:List Int}{n:Nat}(h:n<l.length)(e:o.has l[n]=false):ef o l (n+1)=ef o l n:=by
 unfold ef;rw[xa h e]
theorem xb {o:aI}{l:List Int}{n:Nat}(h:j4 o l n):dN o l n=l.take n:=filter_eq_self.2 fun x b=>by
 obtain⟨i,c,rfl⟩:=zbo.1 b;rw[getElem_take];have a:i<n∧i<l.length:=by grind
 exact h.lo i _ a.1
theorem IP {o:aI}{l:List Int}{n:Nat}(h:j4 o l n):ef o l n=l:=by
 unfold ef;rw[xb h,zbA,zcw h.le,zb7]
theorem j4.all {o:aI}{l:List Int}(h:j4 o l l.length):l.filter o.has=l:=by
 have:=xb h;unfold dN at *
 grind
theorem IU {ρ:Nat->Nat}{o:aI}{l:List Int}{n:Nat}(h:ef o l n=l):an.arr 1 (l.map ic)=an.cp ρ (.arr 1 ((ef o l n).map ic)):=by rw[h];exact gE rfl
theorem ss {k:Nat}{o:aI}{l:List Int}{n:Nat}:an.lt k (.arr 1 ((ef o l n).map ic)):=mb
theorem IS {o:aI}{l:List Int}{n:Nat}(h:n<l.length):((ef o l n).map ic)[0+((n:Int)).toNat]? = some (ic l[n]):=by
 have a:n<(ef o l n).length:=by rw[CC];exact h
 rw[zce,zbt,zbC,zbf a,VV h _];rfl
theorem IQ {ρ:Nat->Nat}{o:aI}{l:List Int}{n j:Nat}{es:List (List AV)}(h:n<l.length)(e:o.has l[n]=true)(b:j=(dN o l n).length)(a:es=((ef o l n).map ic).set j [i64 l[n]]):an.arr 1 es=an.cp ρ (.arr 1 ((ef o l (n+1)).map ic)):=by
 subst b;subst a;refine gE ?_;rw[VW h e,zcD]
theorem IT {ρ:Nat->Nat}{o:aI}{l:List Int}{n:Nat}(h:n<l.length)(e:o.has l[n]=false):an.arr 1 ((ef o l n).map ic)=an.cp ρ (.arr 1 ((ef o l (n+1)).map ic)):=by rw[CB h e];exact gE rfl
theorem Hc {o:aI}{l:List Int}{n:Nat}(h:n<l.length)(e:o.has l[n]=true)(a:l.length≤100000):wr .i64 (((dN o l n).length:Int)+1)=((dN o l (n+1)).length:Int):=by
 have:=@Hb o l n;rw[aE aa aa,Hf h e,zbk];rfl
theorem He {o:aI}{l:List Int}{n:Nat}(h:n<l.length)(e:o.has l[n]=false):((dN o l n).length:Int)=((dN o l (n+1)).length:Int):=by rw[xa h e]
theorem BG {o:aI}{l:List Int}{n:Nat}(h:l.length≤n):dN o l n=l.filter o.has:=by unfold dN;rw[zbj h]
theorem FX {o:aI}{l:List Int}{n:Nat}(b:l.length≤n):List.take (0+((dN o l n).length:Int).toNat) ((ef o l n).map ic)++replicate ((l.length:Int).toNat - ((dN o l n).length:Int).toNat) [i64 0]++List.drop (0+((dN o l n).length:Int).toNat+((l.length:Int).toNat - ((dN o l n).length:Int).toNat)) ((ef o l n).map ic)=((l.filter o.has)++replicate (l.length - (l.filter o.has).length) 0).map ic:=by
 have a:=BG (o:=o) b;rw[<-a];unfold ef;simp
theorem Q9 (o:aI)(hi:bk o.l)(g:o.l.length≤100000)(l:List Int)(p:l≠[])(i:l.length≤100000):cM 63 [.ay 0 0 l.length 1,.fn (.func 205) [] [.ptr 1 0 0]] (.put 0 (some (.arr 1 (l.map ic))) (.put 1 (some (.arr 2 [au o.all o.l])) .nil)) 2
 (fun q H' _=>∃t:List Int,q = .ret (.ay 0 0 (l.filter o.has).length 1)∧H'.get 0=some (.arr 1 ((l.filter o.has++t).map ic))∧H'.get 1=some (.arr 2 [au o.all o.l])):=by
 refine zd func63 ?_;refine zg ?_
 repeat' ((first|(refine zp ?_ ?_<;>first|exact⟨⟩|intro h)|(refine DC.flat (args':=[aT l,.fn (.func 205) [] [.bm (au o.all o.l)]]) (da (y5 (f:=ic) (n:=19) (l:=l) (fun _=>rfl) rfl) (da rfl rfl)) (TM o hi g l i) ?_;rintro _ ⟨n,rfl,⟨rfl,hid⟩|⟨m,rfl,hid,j,b⟩⟩<;>refine⟨rfl,?_⟩))<;>refine zg ?_)
 . exact⟨[],by rw[hid.all],by rw[hid.all,zcX];rfl,rfl⟩
 have c:dN o l (m+1)=l.take m:=(xa j b).trans (xb hid);have d:((dN o l (m+1)).length:Int)=(m:Int):=by rw[c,zbA,zcw aa]
 have e:ef o l (m+1)=l:=(CB j b).trans (IP hid);refine DW.aO aC aD [0,1,4] [0] 0 (fun x:{x:Nat // m+1≤x∧x≤l.length}=>[(6,i64 x.1),(5,i64 (dN o l x.1).length)]) (fun x=>[(0,.arr 1 ((ef o l x.1).map ic))]) [] (fun x=>l.length+1 - x.1) (⟨m+1,aa,aa⟩) ?_
 conv=>whnf
 refine⟨?_,fun x=>?_⟩
 . conv => whnf
   (repeat' first|exact True.intro|apply And.intro|rfl|exact IU e|exact ss|exact zbc (AV.int .i64) d.symm|(refine cw ?_ ?_ ?_<;>(try dsimp only)<;>omega))
 have r:=x.2.1;have s:=x.2.2;have u:=@xc o l x.1;have v:=@CC o l x.1;refine zk ?_
 repeat' ((first|(refine zp ?_ ?_<;>intro h)|refine bR (IS (n:=x.1) aa) ?_|refine bR (eV (l:=ef o l x.1) aa) ?_|(refine DC.flat (args':=[i64 (l[x.1]'aa),.bm (au o.all o.l)]) (da rfl (da rfl rfl)) (IJ o hi g _) ?_;rintro _ rfl;refine⟨rfl,?_⟩))<;>refine zk ?_)
 . have a : x.1 < l.length := aa
   refine⟨⟨x.1+1,aa,aa⟩,?_,rfl,bH⟩
   conv=>whnf
   (repeat' first|exact True.intro|apply And.intro|rfl|exact IT a h|exact ss|exact zbc (AV.int .i64) (He a h)|(refine cw ?_ ?_ ?_<;>(try dsimp only)<;>omega))
 . have a : x.1 < l.length := aa
   refine⟨⟨x.1+1,aa,aa⟩,?_,rfl,bH⟩
   conv=>whnf
   (repeat' first|exact True.intro|apply And.intro|rfl|(refine IQ a h ?_ rfl;simp;done)|exact ss|exact zbc (AV.int .i64) (Hc a h i)|(refine cw ?_ ?_ ?_<;>(try dsimp only)<;>omega))
 . have y : x.1 = l.length := aa
   refine⟨replicate (l.length - (l.filter o.has).length) 0,?_,?_,rfl⟩
   . rw[BG aa];simp
   . exact zbc (fun w=>some (an.arr 1 w)) (FX aa)
theorem Q_ {n:Nat}{o:aI}(hi:bk o.l)(c:o.l.length≤100000)(l:List Int)(a:l≠[])(d:l.length≤100000)(e:n=l.length):cM 63 [.ay 0 0 n 1,.fn (.func 205) [] [.ptr 1 0 0]] (.put 0 (some (.arr 1 (l.map ic))) (.put 1 (some (.arr 2 [au o.all o.l])) .nil)) 2
 (fun b H' _=>∃t:List Int,b = .ret (.ay 0 0 (l.filter o.has).length 1)∧H'.get 0=some (.arr 1 ((l.filter o.has++t).map ic))∧H'.get 1=some (.arr 2 [au o.all o.l])):=by
 subst e;exact Q9 o hi c l a d
theorem Sj {b:Bool}{l:List Int}:an.dT (.arr 2 [au b l]):=rfl
theorem Gv {H:aj}{K m:Nat}{b:Bool}{l t:List Int}(c:H.get K=some (.arr 1 ((l++t).map ic)))(a:m=l.length):snap H 20 (.agg [.bool b,.ay K 0 m 1])=some (.agg (au b l)):=Be c rfl a
theorem VP (y:Int)(ys:List Int)(e:(y::ys).length≤100000)(o:aI)(c:bk o.l)(b:o.l.length≤100000):af 167 [.agg (au false (y::ys)),o.av] (fun h=>h = .ret ((aI.mk false (y::ys)).mt o).av):=by
 have f:(y::ys).length=ys.length+1:=zbd;refine zw func167 ?_;refine zg ?_
 repeat' ((first|refine zf ?_|refine Rq.mk Ib ?_|(refine Rq.mk (Ia (by simp only[zba,zbd] at *;omega) aB) ?_)|refine zd func16 ?_|(refine DC.Su (k:=_) (l:=_) (Q_ c b (y::ys) (cons_ne_nil _ _) e ag) rfl rfl ab rfl rfl (iY (l:=y::ys)) Sj ?_;rintro _ m _ ⟨t,rfl,g,i⟩;refine⟨_,_,_,rfl,_,g,i,iY,?_⟩))<;>refine zg ?_)
 generalize d:snap _ _ _=j
 obtain rfl:=d.symm.trans (Gv (l:=(y::ys).filter o.has) (t:=t) rfl rfl);rfl
theorem zaf:Told .cW (.ak 1 []):=fun c w v h=>by
 cases h with
 | cW a=>exact .ak (fun _ _=>undef) (ag) (ag) ag (ag) ag
 | iA=>exact .fh 1
theorem VO (o:aI):af 167 [.agg (au false []),o.av] (fun b=>b = .ret ((aI.mk false []).mt o).av):=by
 refine DP.told (Q:=fun b=>b = .ret (.agg [.bool false,.cW])) ?_ ?_
 . refine zw func167 ?_
   refine zg ?_
   repeat' ((first|(refine zp ?_ ?_<;>first|exact⟨⟩|intro h)|(refine DC.pure rfl (FW) ?_;rintro _ rfl)|refine zd func63 ?_|refine zd func93 ?_|refine DW.rounds aC aD 1 ?_)<;>refine zg ?_)
   all_goals exact⟨⟩
 . rintro _ rfl
   exact⟨_,.agg [.bool false,.ak 1 []],rfl,Told.agg ⟨Told.r,zaf,trivial⟩,rfl⟩
theorem QT (a b:List Int)(r:a.length≤1001)(s:b.length≤1001)(q:a.length+b.length≠0):cM 121 [.ak 1 [[aT a],[aT b]]] .nil 0 (fun p H' _=>∃K n,p = .ret (.ay K 0 n 1)∧n=(a++b).length∧H'.get K=some (.arr 1 ((a++b).map ic))):=by
 refine zd func121 ?_;have c:wr .i64 (0+1)=1:=by rw[aE aa aa];rfl
 have l:wr .i64 (wr .i64 (0+1)+1)=2:=by rw[c,aE aa aa];rfl
 have k:wr .i64 (0+(a.length:Int))=a.length:=by rw[aE aa aa];omega
 have g:wr .i64 (wr .i64 (0+(a.length:Int))+(b.length:Int))=a.length+b.length:=by rw[k,aE aa aa]
 have j:wr .i64 (0 - ((0:Nat):Int))=0:=by rw[aE aa aa];rfl
 have i:wr .i64 (wr .i64 (wr .i64 (0+(a.length:Int))+(b.length:Int)) - wr .i64 (0 - ((0:Nat):Int)))=((a.length+b.length:Nat):Int):=by rw[g,j,aE aa aa];omega
 conv=>whnf
 repeat' ((first|refine Rq.mk (EW (m:=a.length+b.length) (by simp only[zba];exact i) aa aa ab) ?_|refine Rq.mk Aj ?_|refine Rq.mk (ru 8 3000 _ ag rfl rfl (by simp<;>omega) mD) ?_|refine Rq.mk kW ?_|refine Br.split (fun h=>?_) (fun h=>?_)<;>(try simp only[bz,Av,E6] at h)<;>try (exfalso;omega)|refine DW.rounds aC aD 3 ?_|refine zd func174 ?_|refine az.mk [aT b] (by rw[c];rfl) ?_|refine az.mk _ rfl ?_)<;>conv=>whnf)
 all_goals
  refine⟨_,_,rfl,?_,Eq.trans (b:=some (an.arr 1 _)) rfl (zbc (fun o=>some (an.arr 1 o)) ?_)⟩
 all_goals
  rcases zbX a.length with f|f<;>rcases zbX b.length with d|d<;>
   first
    | (exfalso;omega)
    | (obtain rfl:=zbh f;simp[ic,zbj];done)
    | (obtain rfl:=zbh d;simp[ic,zbj];done)
    | (simp[ic,zbj];done)
theorem DC.CF {P:Program}{E:Env}{nx sz N:Nat}{es:List (List AV)}{g:FuncId}{args args':List AV}{H:aj}{R:AE->aj->Nat->Prop}(d:aM (snap .nil 20) args=some args')
 (h:DC P E g args' .nil 0 (fun b H' _=>∃K n,b = .ret (.ay K 0 n sz)∧n=N∧H'.get K=some (.arr sz es)))(f:(es.all fun e=>e.all hU)=true)(i:ble (nx+2) 16777216=true)
 (j:R (.ret (.ay nx 0 N sz)) (.put nx (some (.arr sz es)) H) (nx+1)):DC P E g args H nx R:=by
 obtain⟨b,H',k,l,K,n,rfl,rfl,o⟩:=DC.one h;exact DC.new d (l.mono fun a p m c=>⟨c.1,by grind⟩) f i j
theorem NA {a b:List Int}(d:bk b):Lib.compact (iK (a++b))=jl a b:=by
 refine bk.ext ?_ (r_ d) fun x=>?_
 . exact F9 (Lo _)
 rw[Cz,CA,zbL,jz]
theorem vP {l:List Int}:((l.map ic).all fun e=>e.all hU)=true:=by
 rw[all_map,zbr];intro x _;rfl
theorem QQ:af 121 [.ak 1 [[aT []],[aT []]]] (fun a=>a = .ret .ai):=by
 refine(F_ _ _ ab ab).mono ?_;simp
theorem VQ:af 167 [.agg (au true []),.agg (au true [])] (fun a=>a = .ret (.agg (au true []))):=by
 refine DP.told (Q:=fun a=>a = .ret (.agg [.bool true,.ai])) ?_ ?_
 . refine zw func167 ?_
   refine zg ?_
   repeat' ((first|(refine DC.pure rfl (Ln) ?_;rintro _ rfl)|(refine DC.pure rfl (F7) ?_;rintro _ rfl)|(refine DC.pZ rfl rfl ?_;refine DC.pure rfl QQ ?_;rintro _ rfl))<;>refine zg ?_)
   all_goals exact⟨⟩
 . rintro _ rfl
   exact⟨_,.agg [.bool true,.ak 1 []],rfl,Told.agg ⟨Told.r,Told.nil,trivial⟩,rfl⟩
theorem VR (a b:List Int)(ha:a.length≤1001)(hb:b.length≤1001)(d:a.length+b.length≠0)(f:bk b):af 167 [.agg (au true a),.agg (au true b)] (fun ae=>ae = .ret (.agg (au true (jl a b)))):=by
 have c:a++b≠[]:=fun e=>d (by have:=zbc length e;simpa using this)
 have hl2:(a++b).length≤3000:=by rw[zbk];omega
 have hcl:=@wE (iK (a++b));refine zw func167 ?_;refine zg ?_
 repeat' ((first|(refine DC.pZ rfl rfl ?_;refine DC.CF rfl (QT a b ha hb d) vP ab ?_)|(refine DC.ng (k:=_) (Lq (n:=(a++b).length) (a++b) rfl c aa) rfl rfl rfl (iY (l:=a++b)) ?_;rintro _ H' _ ⟨rfl,g⟩;refine⟨rfl,_,g,iY,?_⟩)|(refine DC.BC (k:=_) (F8 (n:=(a++b).length) (iK (a++b)) o5.symm (Lp c) (by rw[o5];omega)) rfl rfl rfl iY ?_;rintro _ H' _ ⟨rfl,g⟩;refine⟨_,_,_,rfl,_,g,iY,?_⟩))<;>refine zg ?_)
 generalize h:snap _ _ _=rr
 obtain rfl:=h.symm.trans (Gv (l:=Lib.compact (iK (a++b))) rfl rfl);rw[NA f];rfl
theorem IL (l:List Int)(g:l.length≤1001)(o:aI)(a:bk o.l)(c:o.l.length≤1001):af 167 [.agg (au false l),o.av] (fun d=>d = .ret ((aI.mk false l).mt o).av):=by
 cases l with
 | nil=>exact VO o
 | cons y f=>exact VP y _ aa o a aa
theorem VS (a b:List Int)(c:bk a)(e:a.length≤1001)(f:b.length≤1001):af 167 [.agg (au true a),.agg (au false b)] (fun g=>g = .ret ((aI.mk true a).mt ⟨false,b⟩).av):=by
 have k1:=IL b f ⟨true,a⟩ c e;exact zw func167 W
theorem II (s o:aI)(e:bk s.l)(c:bk o.l)(f:s.l.length≤1001)(d:o.l.length≤1001):af 167 [s.av,o.av] (fun i=>i = .ret (s.mt o).av):=by
 obtain⟨j,a⟩:=s;obtain⟨g,b⟩:=o;cases j
 . exact IL a f _ c d
 cases g
 . exact VS a b e f d
 . by_cases h : a.length + b.length = 0
   . obtain rfl := zbh (show a.length = 0 by omega)
     obtain rfl:=zbh (show b.length=0 by omega)
     exact VQ
   . exact VR a b f d h c
theorem WC (M:List (Int×AV))(b c:Bool)(l d:List Int)(k:Int)(f:gq M k=some (.agg (au b l))):af 65 [bJ M c d,i64 k] (fun e=>e = .ret (.agg (au b l))):=by
 exact zw func65 W
theorem WB (M:List (Int×AV))(b:Bool)(c:List Int)(k:Int)(e:gq M k=none):af 65 [bJ M b c,i64 k] (fun d=>d = .ret (.agg (au b c))):=by
 exact zw func65 W
def Hd.dZ (h:Hd):List (Int×AV):=h.own.map fun p=>(p.1,p.2.av)
abbrev Hd.av (h:Hd):AV:=bJ h.dZ h.rest.all h.rest.l
theorem yC {M:List (Int×AV)}:cu M↔bk (M.map (·.1)):=by
 rfl
theorem Hd.GA {h:Hd}:h.dZ.map (·.1)=h.keys:=by unfold Hd.dZ Hd.keys;simp
theorem Hd.oj {h:Hd}(hi:bk h.keys):cu h.dZ:=yC.2 (by rw[Hd.GA];exact hi)
theorem Hd.rJ {h:Hd}:gB h.dZ:=fun p a=>by
 obtain⟨q,_,rfl⟩:=zbG.1 a;exact⟨q.2.all,q.2.l,rfl⟩
theorem Hd.Gz {h:Hd}{k:Int}:∀{l:List (Int×aI)},gq (l.map fun p=>(p.1,p.2.av)) k=(l.find? (fun p=>decide (p.1=k))).map fun p=>p.2.av
 | []=>rfl
 | (a, x) :: l => by
   rw[zcq,find?_cons];unfold gq;cases b:decide (a=k) with
   | true=>rfl
   | false=>exact @Hd.Gz h k l
theorem qs (h:Hd)(k:Int):af 65 [h.av,i64 k] (fun b=>b = .ret (h.of k).av):=by
 have a:=@Hd.Gz h k h.own;unfold Hd.of;cases e:h.own.find? _ with
 | none =>
   rw[e] at a;exact WB _ _ _ k a
 | some p =>
   rw[e] at a;exact WC _ _ _ _ _ k a
structure Hd.iP (h:Hd):Prop where
 inc:bk h.keys
 all:∀k,bk (h.of k).l∧(h.of k).l.length≤1001
 rest:bk h.rest.l∧h.rest.l.length≤1001
theorem Hd.Ok.kd {M N:Nat}(b:N≤1001){h:Hd}(a:h.Ok M N):h.iP:=⟨a.inc,fun k=>⟨(a.all k).1,zbu (a.all k).len b⟩,a.rest.1,zbu a.rest.len b⟩
theorem Hd.wL {h:Hd}(hi:bk h.keys){k:Int}{x:AV}(c:(k,x)∈h.dZ):x=(h.of k).av∧k∈h.keys:=by
 obtain⟨⟨a,s⟩,b,e⟩:=zbG.1 c;cases e;exact⟨by rw[Hd.Jg hi b],zbG.2 ⟨_,b,rfl⟩⟩
theorem Hd.Bj {h:Hd}(hi:bk h.keys){k:Int}(c:k∈h.keys):(k,(h.of k).av)∈h.dZ:=by
 obtain⟨⟨a,s⟩,b,rfl⟩:=zbG.1 c;exact zbG.2 ⟨(a,s),b,by rw[Hd.Jg hi b]⟩
theorem D5 {b:List Int}{f:Int->aI}{a:aI}:(mA b f a).dZ=b.map fun k=>(k,(f k).av):=by
 unfold Hd.dZ mA;simp
theorem D8 {a:List Int}{g:Int->AV}(h:bk a):cu (a.map fun k=>(k,g k)):=yC.2 (by rw[zcz];show bk (a.map id);simp_all)
theorem YA {h:Hd}(hi:bk h.keys){r a:Int}:eu (h.dZ.map fun p=>(p.1,((h.of p.1).wo r).av)) a (.agg (au false [r]))=(h.set r a).dZ:=by
 unfold Hd.set;rw[D5];have f:cu (h.dZ.map fun p=>(p.1,((h.of p.1).wo r).av)):=yC.2 (by rw[zcz];exact yC.1 (Hd.oj hi))
 refine rK (nK f) (D8 (oA hi)) fun j x=>?_
 rw[ja f]
 constructor
 . rintro (⟨rfl, rfl⟩ | ⟨d, i⟩)
   . exact zbG.2 ⟨j,hZ.2 (.inl rfl),by rw[if_pos rfl]⟩
   . obtain ⟨p, g, e⟩ := zbG.1 d
     cases e;exact zbG.2 ⟨p.1,hZ.2 (.inr (Hd.wL hi g).2),by rw[if_neg i]⟩
 . intro d
   obtain⟨k,c,e⟩:=zbG.1 d;cases e
   by_cases b:j=a
   . exact .inl ⟨b,by rw[if_pos b]⟩
   . rcases hZ.1 c with c | c
     . exact absurd c b
     . exact .inr ⟨zbG.2 ⟨_,Hd.Bj hi c,by rw[if_neg b]⟩,b⟩
theorem Yy (h:Hd)(b:h.iP)(r a:Int):af 116 [h.av,i64 r,i64 a] (fun d=>d = .ret (h.set r a).av):=by
 have:=Dz _ (Hd.oj b.inc) _ _ r a _ _ _ (NI _ b.rest.1 (by have:=b.rest.2;omega) r) Hd.rJ (fun k=>⟨_,_,rfl⟩) fun k x e=>by
  rw[(Hd.wL b.inc e).1];exact NI _ (b.all k).1 (by have:=(b.all k).2;omega) r
 rw[YA b.inc] at *;exact this
theorem IK {h o:Hd}(hi:bk h.keys)(f:bk o.keys):dj (dj [] (dM h.dZ [] fun k=>((h.of k).mt (o.of k)).av)) (dM o.dZ [] fun k=>((h.of k).mt (o.of k)).av)=(h.mt o).dZ:=by
 unfold Hd.mt;rw[D5];have i:=kq (l:=dM h.dZ [] fun k=>((h.of k).mt (o.of k)).av) eJ
 have b:∀(M:Hd),bk M.keys->∀j,(∃y,(j,y)∈dM M.dZ [] fun k=>((h.of k).mt (o.of k)).av)↔j∈M.keys:=fun M g j=>by
  rw[so]
  constructor
  . rintro ⟨⟨x, m⟩, _⟩
    exact(Hd.wL g m).2
  . intro a
    exact⟨⟨_,Hd.Bj g a⟩,fun y n=>by cases n⟩
 refine rK (kq i) (D8 (r_ f)) fun j x=>?_
 rw[ql i rH,ql eJ rH,b h hi,b o f]
 constructor
 . rintro (⟨rfl, a⟩ | ⟨⟨rfl, a⟩ | ⟨d, _⟩, _⟩)
   . exact zbG.2 ⟨j,jz.2 (.inr a),rfl⟩
   . exact zbG.2 ⟨j,jz.2 (.inl a),rfl⟩
   . cases d
 . intro d
   obtain⟨k,a,e⟩:=zbG.1 d;cases e
   by_cases c:j∈o.keys
   . exact .inl ⟨rfl,c⟩
   . rcases jz.1 a with a|a<;>grind
theorem Is {h:Hd}{a:Bool}{b:Int->Bool}:dz a b h.dZ []=(a || h.keys.any b):=by
 have e:(h.dZ.filter fun p=>!([]:List (Int×AV)).any fun q=>decide (q.1=p.1))=h.dZ:=filter_eq_self.2 (ag)
 unfold dz;rw[e,<-Hd.GA,any_map];rfl
theorem zaq {a b:List Int}{e:Int->Bool}:(a.any e || b.any e)=(jl a b).any e:=by
 rw[Bool.eq_iff_iff,zbQ,any_eq_true,any_eq_true,any_eq_true]
 constructor
 . rintro (⟨x, c, d⟩ | ⟨x, c, d⟩)
   . exact⟨x,jz.2 (.inl c),d⟩
   exact⟨x,jz.2 (.inr c),d⟩
 . rintro ⟨x, c, d⟩
   rcases jz.1 c with c|c<;>grind
theorem IM {h o:Hd}(hi:bk h.keys)(c:bk o.keys){a:Bool}(b:a = !(h.rest.mt o.rest).same h.rest):dz (dz a (fun k=>!((h.of k).mt (o.of k)).same (h.of k)) h.dZ []) (fun k=>!((h.of k).mt (o.of k)).same (h.of k)) o.dZ []=h.dz o:=by
 rw[Is,Is];unfold Hd.dz;rw[<-zaq,b,Bool.or_assoc]
theorem IY {s t:aI}(b:bk s.l∧s.l.length≤1001)(a:bk t.l∧t.l.length≤1001):(s.mt t).l.length≤3000:=by
 unfold aI.mt;split
 . split
   . have:(jl s.l t.l).length≤s.l.length+t.l.length:=by
      rw[<-NA a.1];refine zbu wE ?_;rw[o5,zbk];simp
     grind
   grind
 grind
theorem VN (h o:Hd)(a:h.iP)(b:o.iP):af 114 [h.av,o.av] (fun j=>j = .ret (.ao [(h.mt o).av,.bool (h.dz o)])):=by
 have i:=II _ _ a.rest.1 b.rest.1 a.rest.2 b.rest.2;have g:=KF (h.rest.mt o.rest) h.rest (by have:=IY a.rest b.rest;omega) (by have:=a.rest.2;omega)
 have f:=fun k=>II _ _ (a.all k).1 (b.all k).1 (a.all k).2 (b.all k).2
 have d:∀k,af 168 [((h.of k).mt (o.of k)).av,(h.of k).av] _:=fun k=>KF _ _ (by have:=IY (a.all k) (b.all k);omega) (by have:=(a.all k).2;omega)
 cases e:(h.rest.mt o.rest).same h.rest with
 | true =>
   rw[e] at g;have:=uU _ o.dZ (Hd.oj a.inc) (Hd.oj b.inc) _ _ _ _ _ _ _ _ _ _ i g (fun k=>⟨_,_,rfl⟩) (fun k=>⟨_,_,rfl⟩) (fun k=>⟨_,_,rfl⟩) Hd.rJ Hd.rJ (fun k _=>qs h k) (fun k _=>qs o k) (fun k _=>f k) (fun k _=>d k)
   rw[IK a.inc b.inc,IM a.inc b.inc (by grind)] at this
   exact this
 | false =>
   rw[e] at g;have:=xJ _ _ (Hd.oj a.inc) (Hd.oj b.inc) _ _ _ _ _ _ _ _ _ _ i g (fun k=>⟨_,_,rfl⟩) (fun k=>⟨_,_,rfl⟩) (fun k=>⟨_,_,rfl⟩) Hd.rJ Hd.rJ (fun k _=>qs h k) (fun k _=>qs o k) (fun k _=>f k) (fun k _=>d k)
   rw[IK a.inc b.inc,IM a.inc b.inc (by grind)] at this
   exact this
end Go.Ago
section
namespace Go.Proofs
open List Nat
open Go.Shelf
def Tryz.laysMc_ren:Go.Shelf.Ren:=⟨fun|5=>169|7=>206|n=>n,fun|23=>109|25=>3|3=>111|4=>4|20=>20|n=>n,fun|n=>n⟩
theorem Tryz.laysMc:Go.Proofs.SlLaysW.n5 Tryz.prog Tryz.laysMc_ren:={
 mixed:=by kernel_rfl
 f5:=⟨Tryz.f169.name,by decide,Tryz.func169.trans (congrArg some (by kernel_rfl))⟩
 f7:=Tryz.func206.trans (congrArg some (by kernel_rfl))
 t4:=Tryz.underlying4
 a4:=Tryz.isAgg4
 z4:=Tryz.sizeOf4
 v4:=Tryz.zeroValue4
 t20:=Tryz.underlying20
 a20:=Tryz.isAgg20
 z20:=Tryz.sizeOf20
 v20:=Tryz.zeroValue20
 t23:=Tryz.underlying109
 a23:=Tryz.isAgg109
 z23:=Tryz.sizeOf109
 v23:=Tryz.zeroValue109 }
end Go.Proofs
namespace Go.Ago
open Go.Proofs List Nat Tryz
theorem Qv (M:List (Int×AV)):cM 169 [.cK M] .nil 0 (fun C H' _=>C = .ret (.cX 0)∧H'.get 0=some (.mp M)):=by
 refine⟨.ret (.cX 0),.put 0 (some (.mp M)) .nil,1,⟨⟨_,func169,rfl,ab⟩,fun c w X u Q I=>?_⟩,rfl,rfl⟩
 obtain⟨v,Y,rfl,L,N⟩:=I.dP;obtain rfl:=N.fX;cases L with
 | @cK _ _ _ r a h f Z J D E F G H =>
   refine(AnyW.maps_Clone Tryz.laysMc r h a w J).mono ?_
   rintro e w' ⟨rfl,rfl⟩
   have m:(w.alloc (.map h a)).heap.size=w.heap.size+1:=by show(w.heap.push _).size=_;rw[Array.size_push]
   have i:∀b,b<w.heap.size->(w.alloc (.map h a)).heap[b]? = w.heap[b]?:=fun b d=>by
    show(w.heap.push _)[b]? = _;rw[zcQ,if_neg aa]
   have s:(w.alloc (.map h a)).heap[w.heap.size]? = some (.map h a):=by
    show(w.heap.push _)[w.heap.size]? = _;rw[zcQ,if_pos rfl]
   have l:∀j o,(Tr.put 0 (some (an.mp M)) Tr.nil:aj).get j=some o->j=0∧o = .mp M:=fun j o e=>by
    rw[Tr.get] at e;cases b:beq j 0 with
    | true=>rw[b] at e;exact⟨zbl b,by cases e;rfl⟩
    | false=>rw[b] at e;cases e
   have y:c.le ⟨fun k=>if k=0 then some ⟨w.heap.size,0,0,0⟩ else none,c.aq⟩:=⟨fun k p e=>(by rw[Q k (zbq _)] at e;cases e),fun b d=>d⟩
   have n:c.bare.le ⟨fun k=>if k=0 then some ⟨w.heap.size,0,0,0⟩ else none,c.aq⟩:=⟨fun k p e=>(by cases e),fun b d=>d⟩
   refine⟨⟨fun k=>if k=0 then some ⟨w.heap.size,0,0,0⟩ else none,c.aq⟩,_,1,.ret (.cX 0),⟨fun k t=>absurd t (zbK _),fun b d=>d,rfl,rfl,rfl,by rw[m];omega,fun b d _=>i b d,fun b d => .inl d,fun b d=>?_⟩,
    ⟨fun b d=>by rw[m];have:=u.bN b d;omega,fun k B e=>?_,fun k o e=>?_,fun k K o R B B' e S _ _ _=>by rw[(l k o e).1,(l K R S).1],fun g O e=>(u.bS g O e).mono y fun b d=>i b (u.bN b d)⟩,zbq _,fun k t=>if_neg aa,?_,rfl,rfl,rfl⟩
   . obtain ⟨k, o, B, U, T, rfl⟩ := d
     obtain⟨rfl,rfl⟩:=l k o U;cases T;exact .inr (zbm _)
   . by_cases t : k = 0
     . subst t
       cases e;rw[m];exact lt_succ_self _
     . simp[t] at e
   . obtain ⟨rfl, rfl⟩ := l k o e
     refine⟨_,rfl,fun V=>?_,⟨rfl,rfl⟩,h,a,s,D,E,f,F,G,fun k x e=>(H k x e).mono n fun b d=>i b (u.bN b d)⟩
     have:=u.bN _ V;exact absurd this (Nat.lt_irrefl _)
   . exact Rel.cX (B:=⟨w.heap.size,0,0,0⟩) rfl
theorem DV.V_ {P:Program}{E:Env}{nm:Nat}{g:FuncId}{b cap args args':List AV}{H:aj}{R:AV->List (Nat×Option an)->List Nat->Prop}{M:List (Int×AV)}(e:aM (snap .nil 20) (b++args++cap)=some args')
 (h:DC P E g args' .nil 0 (fun c H' _=>c = .ret (.cX 0)∧H'.get 0=some (.mp M)))(f:∀p∈M,vM p.2)(d:ble (nm+2) 16777216=true)(j:R (.cX nm) [(nm,some (.mp M))] []):DV P E nm (.fn (.func g) b cap) args H R:=by
 obtain⟨c,H',i,k,n⟩:=h;refine .inr (.inl ⟨_,_,⟨g,b,cap,args',0,.mp M,_,rfl,e,AC.mono k fun a h m l=>?_,f,.inr ⟨rfl,rfl⟩,rfl,?_⟩,j⟩)
 . grind
 have:=zbb d;omega
end Go.Ago
end
namespace Go.Ago
open Go.Proofs List Nat Tryz
attribute [local irreducible] bA bw aV bp bG wr aZ bF comp DC DP DW DV
theorem ZH {x:AV}(h:x.l1 0=true):vM x:=fun c d w v b a=>Dc b (ag) h a
theorem Rv {h:Hd}:∀p∈h.dZ,vM p.2:=fun p a=>by
 obtain⟨q,_,rfl⟩:=zbG.1 a;exact ZH rfl
theorem V5 {h:Hd}(hi:bk h.keys){a b:Int}:eu h.dZ a (h.of b).av=(h.move a b).dZ:=by
 unfold Hd.move;rw[D5];have g:=Hd.oj hi;refine rK (nK g) (D8 (oA hi)) fun j x=>?_
 rw[ja g]
 constructor
 . rintro (⟨rfl, rfl⟩ | ⟨f, i⟩)
   . exact zbG.2 ⟨j,hZ.2 (.inl rfl),by rw[if_pos rfl]⟩
   . obtain ⟨e, d⟩ := Hd.wL hi f
     exact zbG.2 ⟨j,hZ.2 (.inr d),by rw[if_neg i,e]⟩
 . intro f
   obtain⟨k,d,e⟩:=zbG.1 f;cases e
   by_cases c:j=a
   . exact .inl ⟨c,by rw[if_pos c]⟩
   . rcases hZ.1 d with d | d
     . exact absurd d c
     . exact .inr ⟨by rw[if_neg c];exact Hd.Bj hi d,c⟩
theorem Y9 {H:aj}{K:Nat}{es:List (Int×AV)}{b:Bool}{l:List Int}(c:H.get K=some (.mp es))(a:gB es):snap H 20 (.agg [.cX K,.bool b,aT l])=some (bJ es b l):=
 sV (da (y6 c a) (da rfl (da rfl rfl)))
theorem V0 (h:Hd)(e:h.iP)(a b:Int):af 115 [h.av,i64 a,i64 b] (fun f=>f = .ret (h.move a b).av):=by
 refine zw func115 ?_;refine zg ?_
 repeat' ((first|(refine zh rfl (qs h b) ?_;rintro _ rfl)|refine DV.V_ rfl (Qv h.dZ) Rv ab ?_)<;>refine zg ?_)
 generalize c:snap _ _ _=g
 obtain rfl:=c.symm.trans (Y9 (es:=eu h.dZ a (h.of b).av) rfl (Zi (Hd.oj e.inc) Hd.rJ ⟨_,_,rfl⟩));rw[V5 e.inc];rfl
abbrev Hd.row (h:Hd):List AV:=[.cK h.dZ,.bool h.rest.all,aT h.rest.l]
abbrev iG (X:List Hd):an := .arr 3 (X.map Hd.row)
theorem Ko {X:List Hd}{n:Nat}(h:n<X.length):(X.map Hd.row)[0+((n:Int)).toNat]? = some (X[n].row):=by
 simp_all
theorem YC {X:List Hd}{n:Nat}{u:Hd}:(X.map Hd.row).set (0+((n:Int)).toNat) u.row=(X.set n u).map Hd.row:=ag
theorem H5 (X:List Hd)(i:X.length≤100000)(a:Nat)(d:a<X.length)(u:Hd)(g:X[a].iP)(f:u.iP) :
 cM 113 [i64 a,u.av,.ptr 13 0 0] (.put 12 (some (iG X)) (.put 13 (some (.arr 1 [[.ay 12 0 X.length 3]])) .nil)) 14 (fun e H' _=>e = .ret (.bool (X[a].dz u))∧H'.get 12=some (iG (if X[a].dz u=true then X.set a (X[a].mt u) else X))∧H'.get 13=some (.arr 1 [[.ay 12 0 X.length 3]])):=by
 refine zd func113 ?_;refine zk ?_
 repeat' ((first|(refine zp ?_ ?_<;>intro h)|(refine zh rfl (VN X[a] u g f) ?_;rintro _ rfl)|refine bR (Ko d) ?_)<;>refine zk ?_)
 . refine ⟨by rw [h], ?_, rfl⟩
   rw[if_pos h];exact zbc (fun c=>some (an.arr 3 c)) (YC (u:=X[a].mt u))
 . refine ⟨by rw [h], ?_, rfl⟩
   rw[if_neg (by rw[h];exact Bool.false_ne_true)]
   rfl
theorem ve {n:Nat}{X:List Hd}:an.lt n (iG X):=by
 show(List.all _ _)=true;rw[all_map,zbr];intro x _;rfl
theorem H6 {X:List Hd}{b:Bool}{n:Nat}(h:n<X.length)(u:Hd):fF (X,b) n u=((if X[n].dz u=true then X.set n (X[n].mt u) else X),X[n].dz u || b):=by
 unfold fF
 grind
end Go.Ago
section
namespace Go.Ago
open Go.Proofs List Nat Tryz
attribute [local irreducible] bA bw aV bp bG wr aZ bF comp DC DP DW DV
attribute [local irreducible] du ct aL cE dE dm dR dL bU dw dG bK bn bB eh fY lV
def nX (g:Gr)(C:List (List aA))(a:List Int)(n:Nat):Prop:=∀d r:Nat,d<n->(r:Int)<g.ah->bB (aK C d) r=true->a.getD d 0≠a.getD r 0
def ph (d:Nat)(L:List Int)(a:List Int)(n:Nat):Prop:=∀r∈L.take n,a.getD d 0≠a.getD r.toNat 0
theorem nX.nil {g C a}:nX g C a 0:=fun _ _ h=>absurd h (ag)
theorem ph.nil {d L a}:ph d L a 0:=fun _ h=>by cases h
theorem ph.step {d:Nat}{L b:List Int}{n:Nat}(h:ph d L b n)(c:n<L.length)(e:b.getD d 0≠b.getD L[n].toNat 0):ph d L b (n+1):=fun r a=>by
 rw[zbi c] at *;rcases zbL.1 a with a|a
 . exact h r a
 grind
theorem nX.step {g:Gr}{C:List (List aA)}{a:List Int}{n:Nat}(h:nX g C a n)(j:n<C.length)(f:ph n (bn C[n] g.ah.toNat) a (bn C[n] g.ah.toNat).length):nX g C a (n+1):=fun d r i c e=>by
 rcases zbI d n with b|b
 . exact h d r b c e
 . obtain rfl : d = n := aa
   have := f r (by
    rw[zcI];refine nw.2 ⟨r,rfl,aa,?_⟩
    grind)
   grind
theorem nX.apart {g:Gr}(f:cN g){S C:List (List aA)}{c:List Int}(j:nY g S C g.ins.l.length)(h:nX g C c g.ah.toNat):NR g S (fun r=>c.getD r 0):=fun k b n i r d m a=>by
 have:=(j k r b _ n i d m a).1;have o:=f.gx _ (za9 b);exact h _ r aa d this
theorem p_ {l:List Int}{n:Nat}(h:n<l.length):l.getD n 0=l[n]:=by grind
theorem yt {n:Int}{a:List Int}(e:(a.length:Int)=n)(d:∀t∈a,0≤t){r:Int}(h:r = -1∨(0≤r∧r<n)):re a r:=by
 rcases h with h|⟨b,c⟩
 . exact .inl h
 exact .inr ⟨b,aa,by simp_all⟩
theorem J9 {g:Gr}{f:List Int}(k:gA g)(e:(f.length:Int)=g.ah)(c:∀t∈f,0≤t){i:Ins}(hi:i∈g.ins.l):Af i f:=by
 have h:=k.ins i hi;exact⟨yt e c h.d,yt e c h.a,yt e c h.b,fun r j=>yt e c (.inr (h.l r j))⟩
theorem r9 {x n:Int}{m:Nat}(h:0≤x∧x<n)(e:n=(m:Int)):aZ x m=true:=by rw[hY];omega
theorem Ks {g:Gr}{C:List (List aA)}(a:cN g)(b:iT g C){k:Nat}(h:k<C.length):C[k].length≤1∧g.ah≤64 * (C[k].length:Int):=by
 have:=b.row _ (za9 h);have:=mh a;have:=qp a;omega
attribute [local irreducible] nX ph
end Go.Ago
end
