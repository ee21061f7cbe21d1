/-
  Part B23: lemmas, each with its own conditions.
-/
import Derived.Shelf.Sort.Plain
import Derived.Shelf.Slices.CompactI
import Derived.Shelf.Slices.In.SortNone
import Derived.Test.YthaolifcglpkdaaGreatDoorB22
set_option maxRecDepth 100000
set_option maxHeartbeats 0
set_option linter.all false
namespace Go.Ago
open Go.Proofs List Nat Tryz
attribute [local irreducible] bA bw aV bp bG wr aZ bF comp DC DP DW DV
theorem Vg (l:BL Ty)(s:List UInt8):af 250 [iL l.l,.str s] (fun a=>(a = .ret (.bool true)∧l.l.length=s.length)∨a = .ret (.bool false)):=by
 refine(Vf l s).mono ?_;simp
theorem Yk (d:Int)(l:BL Ty):af 196 [i64 d,iL l.l] (fun c=>∃(t:Ty) (e:Int),c = .ret (.ao [t.av,i64 e])):=by
 refine zw func196 ?_;have f:=l.h;refine zg ?_
 repeat' ((first|(refine zp ?_ ?_<;>first|exact⟨⟩|intro h)|(refine DC.pure rfl (Vg l _) ?_;rintro _ (⟨rfl,a⟩|rfl)<;>(try simp only[zbd,zbp,zce,reduceAdd] at a)))<;>refine zg ?_)
 all_goals exact H9 (by first|decide|exact(l.l[(0:Int).toNat]'aa).hp)
theorem FT (c:Int)(h:0≤c∧c≤31):∃a b:Int,chunk xT (c.toNat * zr.size) zr.size=some [.int .i8 a,.int .i8 b]∧wr .i64 a=a∧wr .i64 b=b ∧
 ((c=2∨c=3∨c=30∨c=31)->b=1)∧(4≤c∧c≤24->1≤a∧a≤3)∧(c=18->a=2)∧(c=30∨c=31->a=1):=by
 obtain⟨k,rfl⟩:=zbW h.1;have d:k<32:=aa
 match k,d with
 | 0,_=>exact⟨0,0,rfl,aE ab ab,aE ab ab,aa,aa,aa,aa⟩
 | 1,_=>exact⟨0,0,rfl,aE ab ab,aE ab ab,aa,aa,aa,aa⟩
 | 2,_=>exact⟨0,1,rfl,aE ab ab,aE ab ab,aa,aa,aa,aa⟩
 | 3,_=>exact⟨0,1,rfl,aE ab ab,aE ab ab,aa,aa,aa,aa⟩
 | 4,_=>exact⟨1,0,rfl,aE ab ab,aE ab ab,aa,aa,aa,aa⟩
 | 5,_=>exact⟨1,0,rfl,aE ab ab,aE ab ab,aa,aa,aa,aa⟩
 | 6,_=>exact⟨2,0,rfl,aE ab ab,aE ab ab,aa,aa,aa,aa⟩
 | 7,_=>exact⟨2,0,rfl,aE ab ab,aE ab ab,aa,aa,aa,aa⟩
 | 8,_=>exact⟨2,0,rfl,aE ab ab,aE ab ab,aa,aa,aa,aa⟩
 | 9,_=>exact⟨2,0,rfl,aE ab ab,aE ab ab,aa,aa,aa,aa⟩
 | 10,_=>exact⟨2,0,rfl,aE ab ab,aE ab ab,aa,aa,aa,aa⟩
 | 11,_=>exact⟨1,0,rfl,aE ab ab,aE ab ab,aa,aa,aa,aa⟩
 | 12,_=>exact⟨2,0,rfl,aE ab ab,aE ab ab,aa,aa,aa,aa⟩
 | 13,_=>exact⟨2,0,rfl,aE ab ab,aE ab ab,aa,aa,aa,aa⟩
 | 14,_=>exact⟨2,0,rfl,aE ab ab,aE ab ab,aa,aa,aa,aa⟩
 | 15,_=>exact⟨2,0,rfl,aE ab ab,aE ab ab,aa,aa,aa,aa⟩
 | 16,_=>exact⟨2,0,rfl,aE ab ab,aE ab ab,aa,aa,aa,aa⟩
 | 17,_=>exact⟨1,0,rfl,aE ab ab,aE ab ab,aa,aa,aa,aa⟩
 | 18,_=>exact⟨2,0,rfl,aE ab ab,aE ab ab,aa,aa,aa,aa⟩
 | 19,_=>exact⟨3,0,rfl,aE ab ab,aE ab ab,aa,aa,aa,aa⟩
 | 20,_=>exact⟨2,0,rfl,aE ab ab,aE ab ab,aa,aa,aa,aa⟩
 | 21,_=>exact⟨1,0,rfl,aE ab ab,aE ab ab,aa,aa,aa,aa⟩
 | 22,_=>exact⟨2,0,rfl,aE ab ab,aE ab ab,aa,aa,aa,aa⟩
 | 23,_=>exact⟨3,0,rfl,aE ab ab,aE ab ab,aa,aa,aa,aa⟩
 | 24,_=>exact⟨2,0,rfl,aE ab ab,aE ab ab,aa,aa,aa,aa⟩
 | 25,_=>exact⟨-1,0,rfl,aE ab ab,aE ab ab,aa,aa,aa,aa⟩
 | 26,_=>exact⟨0,0,rfl,aE ab ab,aE ab ab,aa,aa,aa,aa⟩
 | 27,_=>exact⟨0,0,rfl,aE ab ab,aE ab ab,aa,aa,aa,aa⟩
 | 28,_=>exact⟨0,0,rfl,aE ab ab,aE ab ab,aa,aa,aa,aa⟩
 | 29,_=>exact⟨0,0,rfl,aE ab ab,aE ab ab,aa,aa,aa,aa⟩
 | 30,_=>exact⟨1,1,rfl,aE ab ab,aE ab ab,aa,aa,aa,aa⟩
 | 31,_=>exact⟨1,1,rfl,aE ab ab,aE ab ab,aa,aa,aa,aa⟩
theorem T6 {k p q:Int}{v b:Bool}{s:List UInt8}(h:s.length<281474976710656):∃(t:Ty) (a:Bool),AE.ret (.ao [.agg [.int .i64 k,.int .i64 p,.int .i64 q,.bool v,.str s],.bool b])=AE.ret (.ao [t.av,.bool a]):=⟨⟨k,p,q,v,s,h⟩,b,rfl⟩
theorem X2 (c:Ck)(b u n o:Int)(p s:BL (List AV))(t:Ty):af 228 [c.av,.agg [i64 b,i64 u,i64 n,i64 o,.ak 11 p.l,.ak 14 s.l,i64 t.kind,i64 t.p,i64 t.q,.bool t.fz,.str t.eA]] (fun f=>∃(m:Int) (x:Bool),f = .ret (.ao [i64 m,.bool x])):=by
 refine zw func228 ?_;have i:=c.p.procs.h;have g:=c.p.dv.h;refine zg ?_
 repeat' ((first|(refine zp ?_ ?_<;>intro h)|(refine DC.pure rfl (Tj c _) ?_;rintro _ (⟨q,rfl⟩|rfl))|(refine zh rfl (o4 _ _ mD) ?_;rintro _ (⟨rfl,a⟩|⟨rfl,a⟩)<;>simp only[zba] at a)|(refine DC.pure rfl (Lm _ _) ?_;rintro _ ⟨j,rfl,e⟩))<;>refine zg ?_)
 all_goals exact⟨_,_,rfl⟩
theorem KM (p:cQ)(d:jt p.procs.l)(a b:Int)(e:a<p.procs.l.length):af 251 [p.av,i64 a,i64 b] (fun c=>(c = .ret (.bool true)∧1≤b∧b<p.procs.l.length)∨c = .ret (.bool false)):=by
 refine(KL p d a b e).mono ?_
 simp_all
end Go.Ago
section
namespace Go.Ago
open Go.Proofs List Nat Tryz
attribute [local irreducible] bA bw aV bp bG wr aZ bF comp DC DP DW DV
abbrev aA:=BitVec 64
abbrev j1 (b:aA):List AV:=[.int .u64 (b.toNat:Int)]
abbrev gb (ws:List aA):AV := .ak 1 (ws.map j1)
def bB (ws:List aA)(r:Nat):Bool:=(ws.getD (r / 64) 0).getLsbD (r % 64)
theorem zD (b:aA):IntKind.wrap .u64 (b.toNat:Int)=b.toNat:=by
 simp[IntKind.wrap,IntKind.bits,IntKind.signed];omega
theorem CZ (a b:aA):dU .or .u64 (a.toNat:Int) (b.toNat:Int)=((a ||| b).toNat:Int):=by
 simp only[dU,zc6,zdf];exact zD _
theorem Og (a b:aA):dU .and .u64 (a.toNat:Int) (b.toNat:Int)=((a &&& b).toNat:Int):=by
 simp only[dU,zc6,zdf];exact zD _
theorem Oh (a b:aA):dU .andNot .u64 (a.toNat:Int) (b.toNat:Int)=((a &&& ~~~b).toNat:Int):=by
 simp only[dU,zc6,zdf];exact zD _
theorem YS (a:aA)(k:Nat)(b:k<64):bG (a.toNat:Int) (k:Int) .u64=((a >>> k).toNat:Int):=by
 simp[bG,IntKind.bits,shiftRight_eq_div_pow]
 grind
theorem K_ (k:Nat)(b:k<64):wr .u64 (1 * 2 ^ min ((k:Int)).toNat 64)=((BitVec.twoPow 64 k).toNat:Int):=by
 have d:min ((k:Int)).toNat 64=k:=aa;have a:2 ^ k<2 ^ 64:=Nat.pow_lt_pow_right ab b;have c:2 ^ k=(2 ^ k:Nat):=ag;rw[BitVec.toNat_twoPow,mod_eq_of_lt a,Int.one_mul];have:=zD (BitVec.twoPow _ k);rw[BitVec.toNat_twoPow,mod_eq_of_lt a] at *;unfold wr
 grind
theorem Da {r:Int}(h:0≤r)(a:r<4611686018427387904):wr .i64 (r.tdiv 64)=((r.toNat / 64:Nat):Int):=by
 obtain⟨n,rfl⟩:=zbW h;rw[aE (by grind) (by grind)];simp
theorem m64 {r:Int}(h:0≤r):r.tmod 64=((r.toNat % 64:Nat):Int):=by
 grind
theorem O4 (w:aA)(k:Nat)(a:k<64):(dU .and .u64 (bG (w.toNat:Int) (k:Int) .u64) 1=1)↔w.getLsbD k=true:=by
 rw[YS w k a,show(1:Int)=(1#64).toNat from rfl,Og]
 have e:w >>> k &&& 1#64=if w.getLsbD k then 1#64 else 0#64:=by
  grind
 grind
theorem O3 {ws:List aA}{r n m:Int}(c:n=((r.toNat / 64:Nat):Int))(b:m=((r.toNat % 64:Nat):Int))(a:n.toNat<ws.length) :
 (dU .and .u64 (bG (ws[n.toNat].toNat:Int) m .u64) 1=1)↔bB ws r.toNat=true:=by
 subst b;rw[O4 _ _ aa,bB]
 grind
theorem E_ {ws:List aA}{r n m:Int}(b:n=((r.toNat / 64:Nat):Int))(c:m=((r.toNat % 64:Nat):Int))(a:n.toNat<ws.length) :
 (dU .and .u64 (Int.fdiv (ws[n.toNat].toNat:Int) (2 ^ min m.toNat IntKind.u64.bits)) 1=1)↔bB ws r.toNat=true:=by
 have:=O3 b c a;unfold bG at *
 grind
theorem OX {ws:List aA}{r:Nat}{p:Prop}(h:p)(e:p↔bB ws r=true):AE.ret (.bool true)=AE.ret (.bool (bB ws r)):=by grind
theorem OV {ws:List aA}{r:Nat}{p:Prop}(h:¬p)(e:p↔bB ws r=true):AE.ret (.bool false)=AE.ret (.bool (bB ws r)):=by
 grind
attribute [local irreducible] dU
theorem HD (ws:BL aA)(r:Int)(h:0≤r∧r<64 * ws.l.length):af 85 [gb ws.l,i64 r] (fun d=>d = .ret (.bool (bB ws.l r.toNat))):=by
 refine zw func85 ?_;have e:=ws.h;have c:=Da (r:=r) aa aa;have b:=m64 (r:=r) aa;refine zg ?_
 repeat' ((refine zp ?_ ?_<;>intro h)<;>refine zg ?_)
 all_goals first|exact OX h (E_ c b aa)|exact OV h (E_ c b aa)
end Go.Ago
end
namespace Go.Ago
open List Nat
def eB (ws:List aA)(r:Nat):List aA:=ws.set (r / 64) (ws.getD (r / 64) 0 ||| BitVec.twoPow 64 (r % 64))
def iz (ws:List aA)(r:Nat):List aA:=ws.set (r / 64) (ws.getD (r / 64) 0 &&& ~~~ BitVec.twoPow 64 (r % 64))
theorem XA {ws:List aA}{r n m:Int}(d:n=((r.toNat / 64:Nat):Int))(c:m=((r.toNat % 64:Nat):Int))(a:n.toNat<ws.length) :
 (ws.map j1).set (0+n.toNat) [AV.int .u64 (dU .or .u64 (ws[n.toNat].toNat:Int) (wr .u64 (1 * 2 ^ min m.toNat IntKind.u64.bits)))]=(eB ws r.toNat).map j1:=by
 subst c;rw[show IntKind.u64.bits=64 from rfl,K_ _ aa,CZ]
 have b:n.toNat=r.toNat / 64:=aa;simp only[b] at a ⊢;simp only[eB,zcD,zce,getD,zbf a,zcb]
theorem Rj {ws:List aA}{r n m:Int}(d:n=((r.toNat / 64:Nat):Int))(c:m=((r.toNat % 64:Nat):Int))(a:n.toNat<ws.length) :
 (ws.map j1).set (0+n.toNat) [AV.int .u64 (dU .andNot .u64 (ws[n.toNat].toNat:Int) (wr .u64 (1 * 2 ^ min m.toNat IntKind.u64.bits)))]=(iz ws r.toNat).map j1:=by
 subst c;rw[show IntKind.u64.bits=64 from rfl,K_ _ aa,Oh]
 have b:n.toNat=r.toNat / 64:=aa;simp only[b] at a ⊢;simp only[iz,zcD,zce,getD,zbf a,zcb]
theorem wm {ws:List aA}{r s:Nat}(a:r<64 * ws.length):bB (eB ws r) s=(decide (s=r) || bB ws s):=by
 unfold bB eB
 grind
theorem OZ {ws:List aA}{r s:Nat}(a:r<64 * ws.length):bB (iz ws r) s=(!decide (s=r) && bB ws s):=by
 unfold bB iz
 grind
def cy (a b:List aA):List aA:=zipWith (· ||| ·) a b
theorem wj {a b:List aA}{s:Nat}(h:a.length=b.length):bB (cy a b) s=(bB a s || bB b s):=by
 unfold bB cy
 grind
end Go.Ago
namespace Go.Ago
open Go.Proofs List Nat Tryz
attribute [local irreducible] bA bw aV bp bG wr aZ bF comp DC DP DW DV
attribute [local irreducible] dU bB eB iz
theorem Jq {l:List aA}{n:Int}(h:n.toNat<l.length):(l.map j1)[0+n.toNat]? = some (j1 l[n.toNat]):=by simp[h]
abbrev bV (ws:List aA):an := .arr 1 (ws.map j1)
theorem cU {ws:List aA}:(bV ws).dT:=by simp[an.dT];intro x _;rfl
theorem Xz (ws:BL aA)(r:Int)(h:0≤r∧r<64 * ws.l.length):cM 77 [.ay 0 0 ws.l.length 1,i64 r] (.put 0 (some (bV ws.l)) .nil) 1 (fun c H' _=>c = .ret (.ao [])∧H'.get 0=some (bV (eB ws.l r.toNat))):=by
 refine zd func77 ?_;have e:=ws.h;have d:=Da (r:=r) aa aa;have b:=m64 (r:=r) aa;refine zk ?_
 repeat' (refine bR (Jq aa) ?_<;>refine zk ?_)
 exact⟨rfl,zbc (fun x=>some (an.arr 1 x)) (XA d b aa)⟩
theorem Rh (ws:BL aA)(r:Int)(h:0≤r∧r<64 * ws.l.length):cM 82 [.ay 0 0 ws.l.length 1,i64 r] (.put 0 (some (bV ws.l)) .nil) 1 (fun c H' _=>c = .ret (.ao [])∧H'.get 0=some (bV (iz ws.l r.toNat))):=by
 refine zd func82 ?_;have e:=ws.h;have d:=Da (r:=r) aa aa;have b:=m64 (r:=r) aa;refine zk ?_
 repeat' (refine bR (Jq aa) ?_<;>refine zk ?_)
 exact⟨rfl,zbc (fun x=>some (an.arr 1 x)) (Rj d b aa)⟩
theorem or_eq {x y:aA}:dU .or .u64 (x.toNat:Int) (y.toNat:Int)=(x.toNat:Int)↔x ||| y=x:=by
 rw[CZ];exact⟨fun h=>BitVec.eq_of_toNat_eq aa,fun h=>by rw[h]⟩
theorem N7 {x y:aA}{H:aj}(h:dU .or .u64 (x.toNat:Int) (y.toNat:Int)=(x.toNat:Int)) :
 AE.ret (AV.bool false)=AE.ret (AV.bool !decide (cy [x] [y]=[x]))∧(Tr.put 0 (some (bV [x])) (Tr.put 1 (some (bV [y])) H)).get 0=some (bV (cy [x] [y]))∧(Tr.put 0 (some (bV [x])) (Tr.put 1 (some (bV [y])) H)).get 1=some (bV [y]):=by
 have a:cy [x] [y]=[x]:=by simp[cy,or_eq.1 h]
 exact⟨by grind,by rw[a];rfl,rfl⟩
theorem N8 {x y:aA}{H:aj}{n:Int}{a b:aj->Option an}{es:List (List AV)}(h:¬dU .or .u64 (x.toNat:Int) (y.toNat:Int)=(x.toNat:Int))(d:a=fun H=>H.get 0)(c:b=fun H=>H.get 1)(f:es=[[AV.int .u64 (dU .or .u64 (x.toNat:Int) (y.toNat:Int))]]) :
 AE.ret (AV.bool true)=AE.ret (AV.bool !decide (cy [x] [y]=[x]))∧a (Tr.put 0 (some (.arr 1 es)) (Tr.put 0 (some (bV [x])) (Tr.put 1 (some (bV [y])) H)))=some (bV (cy [x] [y]))∧b (Tr.put 0 (some (.arr 1 es)) (Tr.put 0 (some (bV [x])) (Tr.put 1 (some (bV [y])) H)))=some (bV [y]):=by
 subst d;subst c;subst f;have g:¬cy [x] [y]=[x]:=by
  intro e;have:[x ||| y]=[x]:=e
  exact h (or_eq.2 (by grind))
 refine⟨by simp_all,?_,rfl⟩
 show some _=some (an.arr 1 [[AV.int _ _]]);rw[CZ]
theorem N6 (a b:List aA)(h:a.length=b.length)(f:a.length≤1):cM 81 [.ay 0 0 a.length 1,.ay 1 0 b.length 1] (.put 0 (some (bV a)) (.put 1 (some (bV b)) .nil)) 2
 (fun e H' _=>e = .ret (.bool (!decide (cy a b=a)))∧H'.get 0=some (bV (cy a b))∧H'.get 1=some (bV b)):=by
 refine zd func81 ?_;have d:wr .i64 (0+1)=1:=by rw[aE aa aa];rfl
 rcases a with _|⟨x,_|⟨_,_⟩⟩
 . rcases b with _ | ⟨_, _⟩
   . refine zg ?_
     repeat' ((first|(refine zp ?_ ?_<;>first|exact⟨⟩|intro h)|refine DW.rounds aC aD 2 ?_)<;>refine zg ?_)
     all_goals exact⟨rfl,rfl,rfl⟩
   . cases h
 . rcases b with _ | ⟨y, _ | ⟨_, _⟩⟩
   . cases h
   . refine zg ?_
     repeat' ((first|(refine zp ?_ ?_<;>first|exact⟨⟩|intro h)|refine DW.rounds aC aD 2 ?_)<;>refine zg ?_)
     all_goals first
      | exact N7 bD
      | exact N8 (a:=fun H=>H.get 0) (b:=fun H=>H.get 1) (n:=0) bD rfl rfl rfl
   . cases h
 . simp at f
end Go.Ago
section
namespace Go.Ago
open Go.Proofs List Nat Tryz
attribute [local irreducible] bA bw aV bp bG wr aZ bF comp DC DP DW DV
def bn (ws:List aA)(n:Nat):List Int:=((List.range n).filter (bB ws)).map (fun k:Nat=>(k:Int))
theorem Vm {ws}:bn ws 0=[]:=rfl
theorem Iv {ws n}(h:bB ws n=true):bn ws (n+1)=bn ws n++[(n:Int)]:=by simp[bn,zcW,h]
theorem It {ws n}(h:bB ws n=false):bn ws (n+1)=bn ws n:=by simp[bn,zcW,h]
theorem sf {ws n}:(bn ws n).length≤n:=by
 have:=zc4 (bB ws) (List.range n)
 simpa[bn] using this
theorem eg {α:Type}{f:α->List AV}{ρ:Nat->Nat}{sz:Nat}(a:∀x,(f x).map (AV.r1 ρ)=f x){y:α}{acc:List α}:an.arr sz (f y::acc.map f)=an.cp ρ (.arr sz (f y::acc.map f)):=by
 simp[an.cp,a]
abbrev ic (n:Int):List AV:=[i64 n]
attribute [local irreducible] dU bB bn
theorem Vk (ws:BL aA)(n:Int)(h:0≤n∧n≤64 * ws.l.length∧n≤1000000):af 39 [gb ws.l,i64 n] (fun j=>∃l:List Int,j = .ret (bif l.isEmpty then .ai else .ak 1 (l.map ic))∧l=bn ws.l n.toNat):=by
 refine zw func39 ?_;have k:=ws.h
 conv=>whnf
 refine DW.aO aC aD [0,4,7] [] 2000 (fun i:{i:Nat×List Int // i.2=bn ws.l i.1∧(i.1:Int)≤n}=>[(8,i64 i.1.1),(5,fu 1000 1 (i.1.2.map ic))]) (fun i=>fq 1000 1 (i.1.2.map ic)) [(1000,.slot 5)] (fun i=>n.toNat+1 - i.1.1) (⟨(0,[]),Vm.symm,by show(0:Int)≤n;omega⟩) ?_
 refine zl fun i=>?_
 rcases i with⟨⟨i,_|⟨y,c⟩⟩,b,d⟩
 . dsimp only at b d
   have a:([]:List Int).length≤i:=by rw[b];exact sf
   refine zg ?_
   repeat' ((first|refine zf ?_|(refine zp ?_ ?_<;>intro h)|(refine DC.pure rfl (HD ws (i:Int) ⟨aa,aa⟩) ?_;rintro _ rfl))<;>refine zg ?_)
   all_goals first
    | exact⟨[],rfl,by rw[b];congr 1;omega⟩
    | (refine⟨⟨(i+1,[(i:Int)]),(by rw[Iv (by exact h),<-b];rfl),aa⟩,jC,rfl,vA⟩)
    | (refine⟨⟨(i+1,[]),(by rw[It (by exact h),<-b]),aa⟩,jC,rfl,vA⟩)
 . dsimp only at b d
   have a:(y::c).length≤i:=by rw[b];exact sf
   refine zg ?_
   repeat' ((first|refine zf ?_|(refine Rq.mk (eP 8 1000000 ag rfl rfl (by have:=a;simp only[zbd,zba] at this ⊢;omega) ab) ?_)|(refine zp ?_ ?_<;>intro h)|(refine DC.pure rfl (HD ws (i:Int) ⟨aa,aa⟩) ?_;rintro _ rfl))<;>refine zg ?_)
   all_goals first
    | (refine⟨⟨(i+1,y::(c++[(i:Int)])),(by rw[Iv (by exact h),<-b];rfl),aa⟩,jC,rfl,vA⟩)
    | (refine⟨⟨(i+1,y::c),(by rw[It (by exact h),<-b]),aa⟩,jC,rfl,vA⟩)
    | (erw [vm (f := ic) (fun _ => by rfl) aB]; conv => whnf
       exact⟨y::c,rfl,by rw[b];congr 1;omega⟩)
theorem Vj (ws:BL aA)(n:Int)(h:0≤n∧n≤64 * ws.l.length∧n≤1000000):af 39 [gb ws.l,i64 n] (fun a=>a = .ret (aT (bn ws.l n.toNat))):=by
 refine(DP.norm (Vk _ n h)).mono ?_;simp
end Go.Ago
end
namespace Go.Ago
open Go.Proofs List Nat Tryz
attribute [local irreducible] bA bw aV bp bG wr aZ bF comp DC DP DW DV
abbrev O_ (l:List Bool):AV := .ak 1 (l.map fun b=>[.bool b])
def kY (l:List Bool)(n:Nat):Prop:=∀(j:Nat) (h:j<l.length),j<n->l[j]=true
theorem kY.nil {l}:kY l 0:=fun _ _ h=>aa
theorem kY.step {l n}(h:kY l n)(b:n<l.length)(c:l[n]=true):kY l (n+1):=fun j d e=>by
 rcases zbI j n with a|a
 . exact h j _ a
 grind
def kF (l:List Bool)(n:Int):Prop:=(n = -1∧kY l l.length)∨(0≤n∧n<l.length∧l.getD n.toNat true=false)
theorem kF.no {l:List Bool}{n:Nat}(h:kY l n)(b:l.length≤n):kF l (-1) := .inl ⟨rfl,fun j a _=>h j _ aa⟩
theorem kF.yes {l:List Bool}{n:Nat}(a:n<l.length)(h:l[n]=false):kF l (n:Int) := .inr ⟨aa,aa,by grind⟩
theorem xp (l:BL Bool):af 87 [O_ l.l,.bool false] (eS (kF l.l)):=by
 refine zw func87 ?_;have b:=l.h
 conv=>whnf
 refine DW.aO aC aD [0,1,4,7] [] 0 (fun i:{i:Nat // kY l.l i}=>[(8,i64 i.1)]) (fun _=>[]) [] (fun i=>l.l.length+1 - i.1) (⟨0,kY.nil⟩) ?_
 refine zl fun i=>?_
 refine zg ?_
 repeat' ((refine zp ?_ ?_<;>intro h)<;>refine zg ?_)
 all_goals first|exact zi ⟨i.1+1,kY.step i.2 aa h⟩|exact⟨_,rfl,kF.yes aa h⟩|exact⟨_,rfl,kF.no i.2 aa⟩
theorem Fw (f n:Int)(l:BL Ty):af 145 [i64 f,i64 n,iL l.l] (fun o=>∃(t:Ty) (b:Bool),o = .ret (.ao [t.av,.bool b])):=by
 refine zw func145 ?_;have y:=l.h;have d:wr .i64 ((l.l.length:Int) - 1)=(l.l.length:Int) - 1:=aE aa aa;have k:wr .i64 (((l.l.map Ty.cells).length:Int) - 1)=(l.l.length:Int) - 1:=by rw[zba];exact d
 refine zk ?_
 repeat' ((first|(refine zp ?_ ?_<;>intro h)|refine az.mk _ (dA aa) ?_|(refine DC.pure rfl (tf _ _ _) ?_;rintro _ (⟨rfl,c⟩|⟨rfl,c⟩))|(refine DC.pure rfl (PH _) ?_;rintro _ ⟨v,rfl,p⟩)|(refine DC.pure rfl (wy _) ?_;rintro _ ⟨x,rfl,q⟩)|(refine DC.pure rfl (E9) ?_;rintro _ rfl)|(refine zh rfl (NW _ (l.l[(0:Int).toNat]'aa) (l.l[(wr .i64 (((l.l.map Ty.cells).length:Int) - 1)).toNat]'aa)) ?_;rintro _ ⟨t,e,rfl⟩)|(refine DC.pure rfl (Yk _ l) ?_;rintro _ ⟨t,e,rfl⟩)|(obtain⟨a,b,g,z,w,m,r,u,j⟩:=FT f aa;refine az.mk _ g ?_;clear g)|refine zo ?_)<;>refine zk ?_)
 all_goals first|exact⟨t,_,rfl⟩|exact T6 (s:=[]) ab
end Go.Ago
namespace Go.Ago
open Go.Proofs List Nat Tryz
def ux:List (List UInt8):=[[],[78],[68,84,86],[68,65],[68,78,77,80],[65],[68,65,78],[68,65,66,78,77,80],[68,65,84],[65,66,84],[68,65,66,78,84,85,87],[68,65,84,85,83],[68,78,76,89,84,82],[68,65,66,78,85,87],[78],[65,78],[80,78],[68,78,76],[65],[78,80,77],[78,80],[78,80],[68,78,65,77],[65,66,77],[78],[78],[68,78],[80,78,70,76,89],[68,80,78,70,84,77],[68,80,65,85,84,77],[78,80,65,85,66,87],[65,66,78,77],[68,65,66,78],[68,65,66,78],[68],[68],[68],[],[68,65]]
def uw:List AV:=ux.map .str
def hasB (a:Int)(c:UInt8):Bool:=decide (0≤a) && decide (a<39) && rB (ux.getD a.toNat []) c
theorem Ta {a:Int}{c:UInt8}(h0:0≤a)(b:a<39):hasB a c=rB (ux.getD a.toNat []) c:=by
 unfold hasB
 grind
theorem HE {a:Int}{c:UInt8}(b:39≤a):hasB a c=false:=by
 unfold hasB
 grind
theorem HF {a:Int}{c:UInt8}(b:a<0):hasB a c=false:=by
 unfold hasB
 grind
theorem Qm {cs:List AV}{n:Nat}(h:n<cs.length):chunk cs (n * 1) 1=some [cs[n]]:=by
 unfold chunk;rw[Nat.mul_one,zbs aa];have:(cs.drop n).take 1=[cs[n]]:=by
  rw[zcr h];rfl
 rw[this]
theorem Ql (a:Int)(h0:0≤a)(d:a<39):chunk uw (a.toNat * vq.size) vq.size=some [.str (ux.getD a.toNat [])]:=by
 have c:a.toNat<ux.length:=by show a.toNat<39;omega
 have:=Qm (cs:=uw) (by simpa[uw] using c)
 rw[show vq.size=1 from rfl,this]
 simp[uw,c]
structure Kc where
 c:Cd
 proc:Int
 fQ:0≤proc∧proc<c.b.l.length
 hlen:c.b.l.length=c.p.procs.l.length
 hp:jt c.p.procs.l
abbrev Kc.cells (k:Kc):List AV:=[mn k.c.p.procs.l,i64 k.c.p.static,nj k.c.p.image.l,pY k.c.p.files.l,.ak 1 (k.c.p.conds.l.map fun s=>[.str s.l]),aT k.c.p.dv.l,wg k.c.b.l,i64 k.proc]
abbrev Kc.av (k:Kc):AV := .agg k.cells
def fg (k:Kc):Int:=(k.c.b.l[k.proc.toNat]'(by have:=k.fQ;omega)).ah
def aL (k:Kc)(r:Int):Prop:=0≤r∧r≤fg k - 1
end Go.Ago
section
namespace Go.Ago
open Go.Proofs Go.RowKit Go.Sort List Nat Tryz
section
variable {G:eZ} {c:Ctx} {w:World}
theorem Dm {zs:List Int}(x:aN G c w (.put 0 (some (.arr 1 (zs.map ic))) .nil))(e:zs≠[]){vs:List Value}(m:aP c w [.ay 0 0 zs.length 1] vs) :
 ∃B cap arr t,vs=[.slice (some ⟨B.b,B.s,none⟩) zs.length cap]∧c.f 0=some B∧B.sz=1∧zs.length≤cap∧cap≤B.n∧w.heap[B.b]? = some (.cells arr t (0,0))∧B.s+B.n≤arr.size∧(∀j,j<zs.length->arr[B.s+j]? = some (.int .i64 (zs[j]!)))∧cap≤9223372036854775807:=by
 obtain⟨v,M,rfl,h,A⟩:=m.dP;obtain rfl:=A.fX;obtain⟨B,g,F,arr,t,o,p,H,K,u⟩:=x.obj 0 _ rfl;have d:0<zs.length:=length_pos_iff.2 e
 generalize L:zs.length=z at h d
 cases h with
 | ay i q r y D =>
   rw[g] at i;cases i;obtain⟨rfl,I⟩:=y aa;refine⟨B,_,arr,t,?_,g,q,r,aa,o,p,fun j J=>?_,D⟩
   . simp
   . have a : j < zs.length := aa
     obtain⟨_,E⟩:=u j [i64 (zs[j])] (by simp[a,ic])
     obtain⟨v,k,l⟩:=E 0 _ rfl;cases l;rw[show B.s+(j * 1+0)=B.s+j by omega] at k
     rw[k,zcG zs j a]
theorem Dl {zs:List Int}{B:fo}{arr:Array Value}{t:TypeId}(h:w.heap[B.b]? = some (.cells arr t (0,0)))(d:∀j,j<zs.length->arr[B.s+j]? = some (.int .i64 (zs[j]!))):Holds (Value.int .i64) w B.b B.s zs.toArray:=by
 intro j a;refine⟨?_,?_⟩
 . unfold World.cell?
   simp_all
 . unfold World.frozen?
   simp[h]
theorem Dk {zs d:List Int}{B:fo}{arr:Array Value}{t:TypeId}{w':World}{n:Nat}{os:Array Obj}(A:aN G c w (.put 0 (some (.arr 1 (zs.map ic))) .nil))(E:c.f 0=some B)(J:B.sz=1)(h:w.heap[B.b]? = some (.cells arr t (0,0)))(Z:B.s+B.n≤arr.size)(S:d.length≤B.n)
 (r:w'=grow (putRow (Value.int .i64) (Sort.ahead w n) B.b B.s d.toArray) os) :
 ExtM 1 c w (.put 0 (some (.arr 1 (zs.map ic))) .nil) c w' (.put 0 (some (.arr 1 (d.map ic))) .nil)∧aN G c w' (.put 0 (some (.arr 1 (d.map ic))) .nil):=by
 have H:=A.bW 0 B E;have q:∀{p:List (List AV)} j F,(Tr.put 0 (some (an.arr 1 p)) Tr.nil:aj).get j=some F->j=0∧F = .arr 1 p:=by
  intro p j F e;rw[Tr.get] at e;cases b:beq j 0 with
  | true=>rw[b] at e;exact⟨zbl b,by cases e;rfl⟩
  | false=>rw[b] at e;cases e
 have a:w'.heap=(w.heap.modify B.b (onCells (putCells (Value.int .i64) B.s d.toArray)))++os:=by rw[r];rfl
 have l:w.heap.size≤w'.heap.size:=by rw[a];simp
 have v:∀b,b<w.heap.size->b≠B.b->w'.heap[b]? = w.heap[b]?:=fun b m I=>by
  rw[a,zcT (by simpa using m),zc3,if_neg (Ne.symm I)]
 have y:Own c (.put 0 (some (.arr 1 (zs.map ic))) .nil) B.b:=⟨0,_,B,rfl,E,rfl⟩;have L:w'.heap[B.b]? = some (.cells (putCells (Value.int .i64) B.s d.toArray arr) t (0,0)):=by
  rw[a,zcT (by simpa using H),zc3,if_pos rfl,h];rfl
 have u:¬c.aq B.b:=fun C=>A.kQ C y
 refine⟨⟨fun _ _=>rfl,fun _ m=>m,by rw[r];rfl,by rw[r];rfl,by rw[r];rfl,l,fun b m M=>v b m fun e=>M (by rw[e];exact y),fun b m => .inl m,fun b m=>?_⟩,
  ⟨fun b m=>zbJ (A.bN b m) l,fun k B' e=>zbJ (A.bW k B' e) l,fun k o e=>?_,fun k Y o o' R B2 e T _ _ _=>by rw[(q k o e).1,(q Y o' T).1],fun g U e=>?_⟩⟩
 . obtain ⟨k, o, R, V, X, rfl⟩ := m
   obtain⟨rfl,_⟩:=q k o V;exact .inl ⟨0,_,R,rfl,X,rfl⟩
 . obtain ⟨rfl, rfl⟩ := q k o e
   refine⟨B,E,u,_,t,L,by simpa[putCells] using Z,J,by simpa using S,fun i e O=>?_⟩
   have C:i<d.length:=by
    have:=(zbn.1 O).1
    simpa using this
   have K:e=ic d[i]:=by simpa[C] using O.symm
   subst K;refine⟨rfl,fun j x P=>?_⟩
   have hj:j=0:=by
    have:=(zbn.1 P).1;simp[ic] at this;exact this
   subst hj;have N:x=i64 d[i]:=by simpa[ic] using P.symm
   subst N;refine⟨.int .i64 d[i],?_,.int _ _⟩;have D:B.s+i<arr.size:=aa;simp only[putCells,Array.getElem?_mapIdx];rw[show B.s+(i * 1+0)=B.s+i by omega,zbS D,zcn,if_pos ⟨aa,by simp;omega⟩,show B.s+i - B.s=i by omega]
   simp[zcG,C]
 . refine (A.bS g U e).mono (.refl c) fun b m => v b (A.bN b m) fun e => ?_
   subst e;exact u m
end
theorem Cz {zs:List Int}{x:Int}:x∈Lib.compact zs↔x∈zs:=by
 unfold Lib.compact Lib.compactUpTo;simp only[zbG,zbY,zcf]
 constructor
 . rintro ⟨j, ⟨c, _⟩, rfl⟩
   rw[zcG _ j (by simpa using c)]
   simp
 . intro i
   obtain⟨j,c,rfl⟩:=zbo.1 i;have e:∀(j:Nat) (c:j<zs.length),∃a,(a<zs.length∧Lib.keeps zs.toArray a=true)∧zs.toArray[a]! = zs[j]:=by
    intro j
    induction j with
    | zero=>intro c;exact⟨0,⟨c,by simp[Lib.keeps]⟩,by rw[zcG _ 0 (by simpa using c)];simp⟩
    | succ j k =>
      intro c
      by_cases h:Lib.keeps zs.toArray (j+1)=true
      . exact⟨j+1,⟨c,h⟩,by rw[zcG _ (j+1) (by simpa using c)];simp⟩
      . obtain ⟨a, l, m⟩ := k aa
        refine⟨a,l,m.trans ?_⟩;simp only[Lib.keeps,zbz,not_or,Classical.not_not] at h
        grind
   exact e j c
theorem wE {zs:List Int}:(Lib.compact zs).length≤zs.length:=by
 unfold Lib.compact Lib.compactUpTo
 grind
end Go.Ago
namespace Go.Proofs
open List Nat
def Tryz.U6:Go.Shelf.Ren:=⟨fun|189=>117|125=>172|257=>171|128=>217|129=>218|294=>209|295=>210|296=>211|297=>212|298=>213|299=>214|216=>123|300=>215|301=>216|328=>254|329=>255|330=>256|331=>257|332=>258|215=>175|343=>298|n=>n,fun|28=>26|3=>3|46=>169|0=>0|51=>265|53=>128|4=>4|183=>259|182=>258|131=>137|5=>5|9=>9|218=>300|222=>304|228=>337|229=>338|n=>n,fun|n=>n⟩
theorem Tryz.Il:Go.Proofs.Lays.n189 prog Tryz.U6:={
 mixed:=by kernel_rfl
 f125:=func172.trans (congrArg some (by kernel_rfl))
 f128:=func217.trans (congrArg some (by kernel_rfl))
 f129:=func218.trans (congrArg some (by kernel_rfl))
 f189:=func117.trans (congrArg some (by kernel_rfl))
 f215:=func175.trans (congrArg some (by kernel_rfl))
 f216:=func123.trans (congrArg some (by kernel_rfl))
 f257:=func171.trans (congrArg some (by kernel_rfl))
 f294:=func209.trans (congrArg some (by kernel_rfl))
 f295:=func210.trans (congrArg some (by kernel_rfl))
 f296:=func211.trans (congrArg some (by kernel_rfl))
 f297:=func212.trans (congrArg some (by kernel_rfl))
 f298:=func213.trans (congrArg some (by kernel_rfl))
 f299:=func214.trans (congrArg some (by kernel_rfl))
 f300:=func215.trans (congrArg some (by kernel_rfl))
 f301:=func216.trans (congrArg some (by kernel_rfl))
 f328:=func254.trans (congrArg some (by kernel_rfl))
 f329:=func255.trans (congrArg some (by kernel_rfl))
 f330:=func256.trans (congrArg some (by kernel_rfl))
 f331:=func257.trans (congrArg some (by kernel_rfl))
 f332:=func258.trans (congrArg some (by kernel_rfl))
 f343:=func298.trans (congrArg some (by kernel_rfl))
 t0:=underlying0
 a0:=isAgg0
 z0:=sizeOf0
 v0:=zeroValue0
 t3:=underlying3
 a3:=isAgg3
 z3:=sizeOf3
 v3:=zeroValue3
 t4:=underlying4
 a4:=isAgg4
 z4:=sizeOf4
 v4:=zeroValue4
 t5:=underlying5
 a5:=isAgg5
 z5:=sizeOf5
 v5:=zeroValue5
 t9:=underlying9
 a9:=isAgg9
 z9:=sizeOf9
 v9:=zeroValue9
 t28:=underlying26
 a28:=isAgg26
 z28:=sizeOf26
 v28:=zeroValue26
 t46:=underlying169
 a46:=isAgg169
 z46:=sizeOf169
 v46:=zeroValue169
 t51:=underlying265
 a51:=isAgg265
 z51:=sizeOf265
 v51:=zeroValue265
 t53:=underlying128
 a53:=isAgg128
 z53:=sizeOf128
 v53:=zeroValue128
 t131:=underlying137
 a131:=isAgg137
 z131:=sizeOf137
 v131:=zeroValue137
 t182:=underlying258
 a182:=isAgg258
 z182:=sizeOf258
 v182:=zeroValue258
 t183:=underlying259
 a183:=isAgg259
 z183:=sizeOf259
 v183:=zeroValue259
 t218:=underlying300
 a218:=isAgg300
 z218:=sizeOf300
 v218:=zeroValue300
 t222:=underlying304
 a222:=isAgg304
 z222:=sizeOf304
 v222:=zeroValue304
 t228:=underlying337
 a228:=isAgg337
 z228:=sizeOf337
 v228:=zeroValue337
 t229:=underlying338
 a229:=isAgg338
 z229:=sizeOf338
 v229:=zeroValue338 }
def Tryz.U7:Go.Shelf.Ren:=⟨fun|20=>118|n=>n,fun|22=>26|3=>3|4=>4|0=>0|n=>n,fun|n=>n⟩
theorem Tryz.Im:Go.Proofs.Lays2.n20 prog Tryz.U7:={
 mixed:=by kernel_rfl
 f20:=func118.trans (congrArg some (by kernel_rfl))
 t0:=underlying0
 a0:=isAgg0
 z0:=sizeOf0
 v0:=zeroValue0
 t3:=underlying3
 a3:=isAgg3
 z3:=sizeOf3
 v3:=zeroValue3
 t4:=underlying4
 a4:=isAgg4
 z4:=sizeOf4
 v4:=zeroValue4
 t22:=underlying26
 a22:=isAgg26
 z22:=sizeOf26
 v22:=zeroValue26
 i3:=by kernel_rfl }
end Go.Proofs
namespace Go.Ago
open Go.Proofs Go.RowKit Go.Sort List Nat Tryz
def iK (zs:List Int):List Int:=zs.mergeSort fun x y=>decide (x≤y)
theorem CA {zs:List Int}{x:Int}:x∈iK zs↔x∈zs:=mem_mergeSort
theorem o5 {zs:List Int}:(iK zs).length=zs.length:=length_mergeSort _
theorem Zm (zs:List Int)(j:zs≠[])(p:zs.length<4611686018427387904):cM 117 [.ay 0 0 zs.length 1] (.put 0 (some (.arr 1 (zs.map ic))) .nil) 1 (fun v H' n=>v = .ret (.ao [])∧n=1∧H' = .put 0 (some (.arr 1 ((iK zs).map ic))) .nil):=by
 refine⟨.ret (.ao []),_,1,⟨⟨_,func117,rfl,ab⟩,fun c w F g r z=>?_⟩,rfl,rfl,rfl⟩
 obtain⟨B,i,q,t,rfl,o,f,m,x,h,y,k,A⟩:=Dm g j z;refine(Any.slices_Sort_int Tryz.Il B.b B.s i zs w (Dl h k) (g.bW 0 B o) p).mono ?_
 rintro e E ⟨rfl,n,G,l⟩
 obtain⟨C,u⟩:=Dk (d:=iK zs) g o f h y (by rw[o5];omega) l
 exact⟨c,_,1,.ret _,C,u,zbm _,r,Rel.ao (cs:=[]) (vs:=[]) rfl ag,rfl,rfl,rfl⟩
theorem QP (zs:List Int)(k:zs≠[])(I:zs.length<4611686018427387904):cM 118 [.ay 0 0 zs.length 1] (.put 0 (some (.arr 1 (zs.map ic))) .nil) 1
 (fun x H' n=>x = .ret (.ay 0 0 (Lib.compact zs).length 1)∧n=1∧H' = .put 0 (some (.arr 1 ((Lib.compact zs++replicate (zs.length - (Lib.compact zs).length) 0).map ic))) .nil):=by
 refine⟨_,_,1,⟨⟨_,func118,rfl,ab⟩,fun c w H p E A=>?_⟩,rfl,rfl,rfl⟩
 obtain⟨B,i,C,t,rfl,q,g,j,y,h,u,l,m⟩:=Dm p k A;have D:=@wE zs;refine(Any.slices_Compact_int Tryz.Im B.b B.s i zs w (Dl h l) aa j).mono ?_
 rintro e r ⟨rfl,n,o⟩
 obtain⟨G,F⟩:=Dk (d:=Lib.compact zs++replicate (zs.length - (Lib.compact zs).length) 0) (os:=#[]) (n:=n) (w':=r) p q g h u eE (by rw[grow_empty];exact o)
 have v:Rel c r (.ay 0 0 (Lib.compact zs).length 1) (.slice (some ⟨B.b,B.s,none⟩) (Lib.compact zs).length i):=Rel.ay q g aa (fun _=>⟨ag,aa⟩) m
 exact⟨c,_,1,.ret (.ay 0 0 (Lib.compact zs).length 1),G,F,zbm _,E,v,rfl,rfl,rfl⟩
theorem Lq {n:Nat}(zs:List Int)(c:n=zs.length)(a:zs≠[])(d:zs.length<4611686018427387904):cM 117 [.ay 0 0 n 1] (.put 0 (some (.arr 1 (zs.map ic))) .nil) 1 (fun b H' _=>b = .ret (.ao [])∧H'.get 0=some (.arr 1 ((iK zs).map ic))):=by
 subst c;refine(Zm _ a d).mono ?_
 rintro _ _ _ ⟨rfl,_,rfl⟩;exact⟨rfl,rfl⟩
theorem F8 {n:Nat}(zs:List Int)(c:n=zs.length)(b:zs≠[])(d:zs.length<4611686018427387904):cM 118 [.ay 0 0 n 1] (.put 0 (some (.arr 1 (zs.map ic))) .nil) 1
 (fun e H' _=>e = .ret (.ay 0 0 (Lib.compact zs).length 1)∧H'.get 0=some (.arr 1 ((Lib.compact zs++replicate (zs.length - (Lib.compact zs).length) 0).map ic))):=by
 subst c;refine(QP _ b d).mono ?_
 rintro _ _ _ ⟨rfl,_,rfl⟩;exact⟨rfl,rfl⟩
theorem Ln:af 117 [.ai] (fun f=>f = .ret (.ao [])):=by
 refine⟨.ret _,PC.qu ⟨_,func117,rfl,ab⟩ fun c w i j b=>?_,rfl⟩
 obtain⟨v,l,rfl,g,d⟩:=b.dP;obtain rfl:=d.fX;cases g;refine(Any.slices_Sort_int_none Tryz.Il none 0 w).mono ?_
 rintro e k ⟨rfl,rfl⟩
 exact⟨rfl,.ret _,Rel.ao (cs:=[]) (vs:=[]) rfl ag,rfl⟩
theorem F7:af 118 [.ai] (fun f=>f = .ret .ai):=by
 refine⟨.ret .ai,PC.qu ⟨_,func118,rfl,ab⟩ fun c w i j b=>?_,rfl⟩
 obtain⟨v,l,rfl,g,d⟩:=b.dP;obtain rfl:=d.fX;cases g;refine(Any.slices_Compact_int_empty Tryz.Im none 0 w).mono ?_
 rintro e k ⟨rfl,rfl⟩
 exact⟨rfl,.ret .ai,.ai,rfl⟩
theorem iY {l:List Int}:an.dT (.arr 1 (l.map ic)):=by
 simp[an.dT];intro x _;rfl
end Go.Ago
end
namespace Go.Ago
open Go.Proofs List Nat Tryz
attribute [local irreducible] bA bw aV bp bG wr aZ bF comp DC DP DW DV
theorem Av {a b:Nat}:(beq a b=true)=(a=b):=ag
theorem E6 {a b:Nat}:(beq a b=false)=¬(a=b):=by
 have:=@Av a b
 grind
theorem EW {c:Int}{m b:Nat}(h:c=(m:Int))(h0:0<m)(d:m≤10000)(a:ble b 1000=true):(blt 0 c.toNat && (c.toNat * (b+1)).ble 140737488355328)=true:=by
 subst h;have a:=zbb a;have e:m * (b+1)≤10000 * 1001:=Nat.mul_le_mul d aa;rw[zbt,show blt 0 m=true from zbs h0,zbs aa];rfl
theorem Aj {l:List Int}:((l.map fun n=>[i64 n]).all fun e=>e.all AV.one)=true:=by simp[AV.one]
theorem fj {α:Type}{f:α->List AV}{H:aj}{k sz n m:Nat}{l:List α}{es:List (List AV)}(b:∀x,aM (snap H n) (f x)=some (f x))(c:H.get k=some (.arr sz es))(d:es=l.map f)(a:m=l.length):snap H (n+1) (.ay k 0 m sz)=some (.ak sz (l.map f)):=by
 subst d;subst a;exact y5 b c
theorem Wj {l:List Int}(h:l≠[]):AE.ret (.ak 1 (l.map ic))=AE.ret (bif l.isEmpty then .ai else .ak 1 (l.map ic)):=by
 grind
theorem F_ (a b:List Int)(z:a.length≤2001)(A:b.length≤2001):af 121 [.ak 1 [[aT a],[aT b]]] (fun s=>∃l:List Int,s = .ret (bif l.isEmpty then .ai else .ak 1 (l.map ic))∧l=a++b):=by
 refine zw func121 ?_;have g:wr .i64 (0+1)=1:=by rw[aE aa aa];rfl
 have t:wr .i64 (wr .i64 (0+1)+1)=2:=by rw[g,aE aa aa];rfl
 have o:wr .i64 (0+(a.length:Int))=a.length:=by rw[aE aa aa];omega
 have j:wr .i64 (wr .i64 (0+(a.length:Int))+(b.length:Int))=a.length+b.length:=by rw[o,aE aa aa]
 have p:wr .i64 (0 - ((0:Nat):Int))=0:=by rw[aE aa aa];rfl
 have k:wr .i64 (wr .i64 (wr .i64 (0+(a.length:Int))+(b.length:Int)) - wr .i64 (0 - ((0:Nat):Int)))=((a.length+b.length:Nat):Int):=by rw[j,p,aE aa aa];omega
 conv=>whnf
 repeat' ((first|refine Rq.mk (EW (m:=a.length+b.length) (by simp only[zba];exact k) aa aa ab) ?_|refine Rq.mk Aj ?_|refine Rq.mk (ru 8 3000 _ ag rfl rfl (by simp<;>omega) mD) ?_|refine Rq.mk kW ?_|refine Br.split (fun h=>?_) (fun h=>?_)<;>(try simp only[bz,Av,E6] at h)<;>try (exfalso;omega)|refine DW.rounds aC aD 3 ?_|refine zd func174 ?_|refine az.mk [aT b] (by rw[g];rfl) ?_|refine az.mk _ rfl ?_)<;>conv=>whnf)
 all_goals first
  | exact⟨[],rfl,by rw[zbh (by assumption:a.length=0),zbh (by assumption:b.length=0)];rfl⟩
  | skip
 all_goals
  generalize q:snap _ 20 _=u
  have v:u=some (.ak 1 ((a++b).map ic)):=by
   refine q.symm.trans (fj (f:=ic) (n:=19) (fun _=>rfl) rfl ?_ ?_)<;>clear q<;>
    rcases zbX a.length with c|c<;>rcases zbX b.length with i|i<;>
    first
     | (exfalso;omega)
     | (obtain rfl:=zbh c;simp[ic,zbj];done)
     | (obtain rfl:=zbh i;simp[ic,zbj];done)
     | (simp[ic,zbj];done)
  obtain rfl:=v
  conv=>whnf
  exact⟨a++b,Wj (by intro e;rcases append_eq_nil_iff.1 e with⟨x,w⟩;have y:=zbc length x;have r:=zbc length w;simp only[zbp] at y r;omega),rfl⟩
theorem QR (a b:List Int)(d:a.length≤2001)(e:b.length≤2001):af 121 [.ak 1 [[aT a],[aT b]]] (fun c=>c = .ret (aT (a++b))):=by
 refine(DP.norm (F_ a b d e)).mono ?_;simp
theorem R3:af 137 [] (fun b=>b = .ret (.agg uw)):=by
 refine zw func137 ?_
 conv=>whnf
 all_goals rfl
theorem B4 (a:Int)(c:UInt8):af 98 [i64 a,.str [c]] (fun d=>d = .ret (.bool (hasB a c))):=by
 refine zw func98 ?_;refine zk ?_
 repeat' ((first|(refine zp ?_ ?_<;>intro h)|(refine DC.pure rfl (R3) ?_;rintro _ rfl)|(refine DC.pure rfl (pN _ c) ?_;rintro _ rfl)|refine az.mk _ (Ql a aa aa) ?_)<;>refine zk ?_)
 all_goals first|(show _=_;rw[Ta aa aa];simp only[*])|(show _=_;rw[HE aa])|(show _=_;rw[HF aa])
theorem qg (x lo hi:Int):af 100 [i64 x,i64 lo,i64 hi] (jV (lo≤x∧x≤hi)):=DP.dec (uH x _ _)
theorem yu (k:Kc)(e:0≤fg k∧fg k≤4000)(r:Int):af 99 [k.av,i64 r] (cc fun b=>b=true↔aL k r):=by
 refine zw func99 ?_;have n:=k.c.p.procs.h;have g:=k.c.b.h;have i:=k.c.p.files.h;have j:=k.c.p.dv.h;have f:=k.c.p.conds.h;have m:=k.fQ;have l:=k.hlen;unfold fg at e;refine zg ?_
 repeat' ((first|(refine zp ?_ ?_<;>intro h)|(refine DC.pure rfl (uH _ _ _) ?_;rintro _ ⟨o,rfl,a⟩))<;>refine zg ?_)
 all_goals (rw[aE aa aa] at a;exact⟨_,rfl,by simp_all[aL,fg]⟩)
theorem Dg (k:Kc)(a:0≤fg k∧fg k≤4000)(r:Int):af 99 [k.av,i64 r] (jV (aL k r)):=DP.dec (yu k a r)
theorem Xb (k:Kc)(p n:Int)(o:0≤p∧p<k.c.b.l.length):af 151 [k.av,i64 p,i64 n] (cc fun b=>b=true↔0≤n∧n≤((k.c.b.l[p.toNat]'aa).ins.l.length:Int)):=by
 refine zw func151 ?_;have q:=k.c.p.procs.h;have g:=k.c.b.h;have i:=k.c.p.files.h;have e:=k.c.p.dv.h;have f:=k.c.p.conds.h;have j:=k.fQ;have m:=k.hlen;refine zg ?_
 repeat' ((first|(refine zp ?_ ?_<;>intro h)|(refine DC.pure rfl (uH _ _ _) ?_;rintro _ ⟨r,rfl,a⟩))<;>refine zg ?_)
 all_goals exact⟨_,rfl,by simp only[zba] at a;simp_all⟩
end Go.Ago
