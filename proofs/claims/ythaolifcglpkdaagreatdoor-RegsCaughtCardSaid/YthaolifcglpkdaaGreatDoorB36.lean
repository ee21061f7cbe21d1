/-
  Part B36: lemmas, each with its own conditions.
-/
import Derived.Test.YthaolifcglpkdaaGreatDoorB35
set_option maxRecDepth 100000
set_option maxHeartbeats 0
set_option linter.all false
namespace Go.Ago
open Go.Proofs List Nat Tryz
attribute [local irreducible] bA bw aV bp bG wr aZ bF comp DC DP DW DV
attribute [local irreducible] du ct aL cE dE dm dR dL bU dw dG bK bn bB eh
theorem T2 (n:Int):af 124 [i64 n] (fun b=>b = .ret (.bool false)):=by
 refine zw func124 ?_;refine zg ?_
 repeat' ((refine zp ?_ ?_<;>first|exact⟨⟩|intro h)<;>refine zg ?_)
 all_goals exact⟨⟩
theorem T3 (n:Int):af 175 [i64 n] (fun b=>b = .ret (.bool false)):=by
 refine zw func175 ?_;refine zg ?_
 repeat' ((refine zp ?_ ?_<;>first|exact⟨⟩|intro h)<;>refine zg ?_)
 all_goals exact⟨⟩
theorem Vc (a b:Int):af 123 [i64 a,i64 b] (cc fun t=>t=true↔a<b):=by
 have k1:=T3 a;exact zw func123 W
theorem Ir (a b:Int):af 123 [i64 a,i64 b] (jV (a<b)):=DP.dec (Vc a b)
theorem OQ (n r:Int)(h:r<100000∧0≤n∧n<100000):af 125 [i64 r,.bm [i64 n]] (fun b=>b = .ret (i64 (if r<0 then r else n+r))):=by
 refine zw func125 ?_;refine zg ?_
 repeat' ((refine zp ?_ ?_<;>intro h)<;>refine zg ?_)
 all_goals first|(rw[if_pos aa])|(rw[if_neg aa,aE aa aa])
def cB (i:Ins)(a:List Int):Ins:=if i.op=14∨i.op=15 then { i with n:=a.getD i.n.toNat 0 } else if i.op=28∨i.op=29 then { i with m:=a.getD i.m.toNat 0 } else i
def rj (a:List Int)(t:Int):Prop:=0≤t∧∃h:t.toNat<a.length,0≤a[t.toNat]
theorem YM (i:Ins)(a:List Int)(r:a.length<281474976710656)(k:∀t∈bP i,rj a t):af 92 [i.av,aT a] (fun d=>d = .ret (.ao [(cB i a).av,i64 0])):=by
 have p:wr .i64 (0+1)=1:=by rw[aE aa aa];rfl
 by_cases b:i.op=14∨i.op=15
 . have g : af 73 [i.av] (fun d => d = .ret (aT [i.n])) := (sY i).mono fun _ h => by rw [h, bP, if_pos b]
   obtain⟨o,j,q⟩:=k i.n (by rw[bP,if_pos b];simp)
   have e:cB i a={ i with n:=a[i.n.toNat] }:=by rw[cB,if_pos b];simp[getD,j]
   rw[e];refine zw func92 ?_;refine zk ?_
   repeat' ((first|refine az.mk _ (dA (l:=a) j) ?_|(refine zp ?_ ?_<;>first|exact⟨⟩|intro h)|(refine DC.pure rfl (g) ?_;rintro _ rfl)|refine DW.rounds aC aD 3 ?_|refine zo ?_)<;>refine zk ?_)
   all_goals exact⟨⟩
 . by_cases f : i.op = 28 ∨ i.op = 29
   . have g : af 73 [i.av] (fun d => d = .ret (aT [i.m])) := (sY i).mono fun _ h => by rw [h, bP, if_neg b, if_pos f]
     obtain⟨o,j,q⟩:=k i.m (by rw[bP,if_neg b,if_pos f];simp)
     have e:cB i a={ i with m:=a[i.m.toNat] }:=by rw[cB,if_neg b,if_pos f];simp[getD,j]
     rw[e];refine zw func92 ?_;refine zk ?_
     repeat' ((first|refine az.mk _ (dA (l:=a) j) ?_|(refine zp ?_ ?_<;>first|exact⟨⟩|intro h)|(refine DC.pure rfl (g) ?_;rintro _ rfl)|refine DW.rounds aC aD 3 ?_|refine zo ?_)<;>refine zk ?_)
     all_goals exact⟨⟩
   . have g : af 73 [i.av] (fun d => d = .ret (aT [])) := (sY i).mono fun _ h => by rw [h, bP, if_neg b, if_neg f]
     have e:cB i a=i:=by rw[cB,if_neg b,if_neg f]
     rw[e];refine zw func92 ?_;refine zg ?_
     repeat' ((first|(refine zp ?_ ?_<;>first|exact⟨⟩|intro h)|(refine DC.pure rfl (g) ?_;rintro _ rfl)|refine DW.rounds aC aD 3 ?_)<;>refine zg ?_)
     all_goals exact⟨⟩
def cq (d a:Int):Ins:=⟨3,d,a,-1,⟨0,0,0,false,[],ab⟩,⟨0,0,0,false,[],ab⟩,⟨0,0,0,false,[],ab⟩,0,0,0,⟨0,[],ab⟩,⟨[],ab⟩,⟨[],ab⟩,⟨[],ab⟩,false,false⟩
theorem V3 (d a:Int):af 126 [i64 d,i64 a] (fun c=>c = .ret (.agg ((((cq d a).cells.set 24 .ai).set 25 .ai).set 26 .ai))):=by
 refine zw func126 ?_
 conv=>whnf
 rfl
theorem sw (d a:Int):af 126 [i64 d,i64 a] (fun b=>b = .ret (cq d a).av):=by
 refine(V3 d a).oG ?_
 rintro _ rfl
 exact⟨_,(cq d a).av,rfl,.inl (.inr ⟨_,_,rfl,rfl,⟨.r,.r,.r,.r,.r,.r,.r,.r,.r,.r,.r,.r,.r,.r,.r,.r,.r,.r,.r,.r,.r,.r,.r,.r,.n,.n,.n,.r,.r,trivial⟩⟩),rfl⟩
theorem wru {n:Int}(h:0≤n∧n<18446744073709551616):wr .u64 n=n:=by
 unfold wr;simp[IntKind.wrap,IntKind.bits,IntKind.signed];omega
theorem sr {lo hi:Nat}(h:lo+hi≤200000):wr .i64 ((wr .u64 (wr .i64 ((lo:Int)+(hi:Int)))).fdiv (2 ^ min (Int.toNat 1) IntKind.u64.bits))=(((lo+hi) / 2:Nat):Int):=by
 rw[aE (n:=lo+hi) aa aa,wru aa,Int.fdiv_eq_ediv_of_nonneg _ ab];have e:(2:Int) ^ min (Int.toNat 1) IntKind.u64.bits=2:=ab;rw[e,aE aa aa];omega
theorem HW {l:List (List AV)}{lo hi:Nat}(h:lo+hi≤200000)(a:(lo+hi) / 2<l.length):aZ (wr .i64 ((wr .u64 (wr .i64 ((lo:Int)+(hi:Int)))).fdiv (2 ^ min (Int.toNat 1) IntKind.u64.bits))) l.length=true:=by
 rw[sr h,hY];omega
theorem Jr {l:List Int}{lo hi:Nat}(h:lo+hi≤200000)(a:(lo+hi) / 2<l.length):(l.map ic)[(wr .i64 ((wr .u64 (wr .i64 ((lo:Int)+(hi:Int)))).fdiv (2 ^ min (Int.toNat 1) IntKind.u64.bits))).toNat]? = some (ic l[(lo+hi) / 2]):=by
 rw[sr h,zbt];simp
end Go.Ago
namespace Go.Ago
open Go.Proofs List Nat Tryz
theorem Sl:∀a:Int,1≤a->a≤38->hasB a 65=true->a=3∨a=5∨a=6∨a=7∨a=8∨a=9∨a=10∨a=11∨a=13∨a=15∨a=18∨a=22∨a=23∨a=29∨a=30∨a=31∨a=32∨a=33∨a=38:=by
 intro a d e h;obtain⟨k,rfl⟩:=zbW (by omega:0≤a)
 have c:k<39:=aa;have:∀k:Fin 39,hasB (k.1:Int) 65=true->k.1∈[3,5,6,7,8,9,10,11,13,15,18,22,23,29,30,31,32,33,38]:=ab;have:=this ⟨k,c⟩ h;simp only[zbB,zb2,zca] at this;omega
theorem Sm:∀a:Int,1≤a->a≤38->hasB a 66=true->a=7∨a=9∨a=10∨a=13∨a=23∨a=30∨a=31∨a=32∨a=33:=by
 intro a d e h;obtain⟨k,rfl⟩:=zbW (by omega:0≤a)
 have c:k<39:=aa;have:∀k:Fin 39,hasB (k.1:Int) 66=true->k.1∈[7,9,10,13,23,30,31,32,33]:=ab;have:=this ⟨k,c⟩ h;simp only[zbB,zb2,zca] at this;omega
theorem Sn:∀a:Int,1≤a->a≤38->hasB a 68=true->a=2∨a=3∨a=4∨a=6∨a=7∨a=8∨a=10∨a=11∨a=12∨a=13∨a=17∨a=22∨a=26∨a=28∨a=29∨a=32∨a=33∨a=34∨a=35∨a=36∨a=38:=by
 intro a d e h;obtain⟨k,rfl⟩:=zbW (by omega:0≤a)
 have c:k<39:=aa;have:∀k:Fin 39,hasB (k.1:Int) 68=true->k.1∈[2,3,4,6,7,8,10,11,12,13,17,22,26,28,29,32,33,34,35,36,38]:=ab;have:=this ⟨k,c⟩ h;simp only[zbB,zb2,zca] at this;omega
abbrev Aa (k:Kc)(r:Int):Prop:=r = -1∨aL k r
theorem TV {k:Kc}{i:Ins}(c:dR i)(d:dL k i):Aa k i.a:=by
 obtain⟨⟨e,f⟩,_,x,_,_⟩:=c;cases g:hasB i.op 65 with
 | false=>grind
 | true =>
   obtain⟨u,v,w,b,o,p,q,r,s,t,j,h,l,m,y,n⟩:=d;have:=Sl _ e f g;unfold dE at *;unfold dm at *
   grind
theorem TW {k:Kc}{i:Ins}(c:dR i)(d:dL k i):Aa k i.b:=by
 obtain⟨⟨e,f⟩,_,_,x,_⟩:=c;cases g:hasB i.op 66 with
 | false=>grind
 | true =>
   obtain⟨u,v,w,a,o,p,q,r,s,t,j,h,l,m,y,n⟩:=d;have:=Sm _ e f g;unfold dm at *
   grind
theorem TX {k:Kc}{i:Ins}(b:dR i)(c:dL k i):Aa k i.d:=by
 obtain⟨⟨e,f⟩,x,_,_,_⟩:=b;cases g:hasB i.op 68 with
 | false=>grind
 | true =>
   obtain⟨u,v,w,a,o,p,q,r,s,t,j,h,l,m,y,n⟩:=c;have:=Sn _ e f g;unfold dE at *;unfold dm at *
   grind
structure InsV (n:Int)(m:Nat)(i:Ins):Prop where
 a:i.a = -1∨(0≤i.a∧i.a<n)
 b:i.b = -1∨(0≤i.b∧i.b<n)
 d:i.d = -1∨(0≤i.d∧i.d<n)
 l:∀r∈i.l.l,0≤r∧r<n
 t:∀x∈bP i,0≤x∧x≤(m:Int)
theorem jw {c:Cd}(h:qZ c){q:Nat}(f:q<c.b.l.length):(0≤c.b.l[q].ah)∧∀i∈c.b.l[q].ins.l,InsV c.b.l[q].ah c.b.l[q].ins.l.length i:=by
 obtain⟨j,h⟩:=h;refine⟨(j.ah q f).1,fun i v=>?_⟩
 obtain⟨o,d⟩:=h q f i v;have g:fg (fy c j q f)=c.b.l[q].ah:=by simp[fg,fy]
 have k:∀r,aL (fy c j q f) r->0≤r∧r<c.b.l[q].ah:=fun r d=>by
  unfold aL at d;rw[g] at d;omega
 refine⟨(TV o d).imp id (k _),(TW o d).imp id (k _),(TX o d).imp id (k _),fun r y=>k r (d.1 r y),fun x e=>?_⟩
 have m:∀n,cE (fy c j q f) (fy c j q f).proc n->0≤n∧n≤(c.b.l[q].ins.l.length:Int):=fun n t=>by
  unfold cE at t;obtain⟨L,D,u⟩:=t;refine⟨D,?_⟩
  simpa[fy] using u
 obtain⟨E,u,H,z,I,J,K,M,F,G,A,w,C,B,s,p⟩:=d;unfold dE at s;unfold dm at p;unfold bP at e;split at e
 . rename_i a
   simp only[zbU] at e;subst e;rcases a with a|a
   . exact m _ ((s aa aa).1 a)
   . exact m _ ((s aa aa).2.1 a).2
 . split at e
   . rename_i a
     simp only[zbU] at e;subst e;rcases a with a|a
     . exact m _ ((p aa aa).2.2.2.1 a).2
     . exact m _ ((p aa aa).2.2.2.2.1 a).2.2
   . cases e
theorem lB {c:Cd}(h:qZ c){q:Nat}(x:q<c.b.l.length){i:Ins}(hi:i∈c.b.l[q].ins.l)(k:i.op=16):∃d:i.p.toNat<c.b.l.length,0≤i.p∧0≤i.n∧i.n≤(c.b.l[i.p.toNat].ins.l.length:Int):=by
 obtain⟨g,h⟩:=h;obtain⟨z,j⟩:=h q _ i hi;obtain⟨B,a,A,m,C,D,F,G,H,y,f,r,s,t,o,E⟩:=j;have:=(o aa aa).2.2.1 k;obtain⟨⟨v,_⟩,d⟩:=this;obtain⟨w,u,a⟩:=d;exact⟨w,v,u,a⟩
theorem oE {p:Int}{x:Int}:∀{bs:List Bd},x∈dG bs p bs.length↔∃b∈bs,∃i∈b.ins.l,i.op=16∧i.p=p∧x=i.n:=by
 unfold dG;simp[VU]
structure dS (c:Cd)(ins most:Nat):Prop where
 nb:c.b.l.length≤70
 ah:∀b∈c.b.l,b.ah≤most
 fH:∀b∈c.b.l,∀i∈b.ins.l,i.l.l.length≤40
 sum:bK c.b.l≤ins
structure gA (g:Gr):Prop where
 ah:0≤g.ah∧g.ah≤64
 eT:g.ins.l.length≤1000∧g.entries.l.length≤1000
 ins:∀i∈g.ins.l,InsV g.ah g.ins.l.length i
 fH:∀i∈g.ins.l,i.l.l.length≤40
 fw:∀t∈g.entries.l,0≤t∧t≤(g.ins.l.length:Int)
theorem gA.ok {g:Gr}(h:gA g):cN g:=by
 refine⟨h.ah,h.eT,fun i f r c=>?_,fun i f=>?_,h.fH,fun i f t m=>(h.ins i f).t t m,h.fw⟩
 . have e := h.ins i f
   unfold aQ at c;rcases zbL.1 c with c|c
   . rcases zbL.1 c with c | c
     . split at c
       . rename_i j
         simp only[zbU] at c;subst c;exact e.a.resolve_left j.2
       . cases c
     . split at c
       . rename_i j
         simp only[zbU] at c;subst c;exact e.b.resolve_left j.2
       . cases c
   . split at c
     . exact e.l r c
     . cases c
 . have e := h.ins i f
   have:=h.ah;unfold aH;split
   . rcases e.d with k|k<;>omega
   . omega
theorem ki:∀{bs:List Bd} {b:Bd},b∈bs->b.ins.l.length≤bK bs
 | x :: bs, b, h => by
   unfold bK;rw[zcq,sum_cons];rcases zbB.1 h with rfl|h
   . omega
   have:=ki h;unfold bK at this;omega
theorem S3 {c:Cd}{p:Int}{g:Gr}{j f:Nat}(o:dS c j f)(K:f≤60)(hi:j≤1000)(u:0≤p∧p<c.b.l.length)(h:bU c=0)(n:g.ins=(c.b.l[p.toNat]'aa).ins)(x:g.ah=(c.b.l[p.toNat]'aa).ah)(m:∃e,eh c p g.entries.l e):gA g:=by
 have k:=Qq c h;have v:p.toNat<c.b.l.length:=aa;obtain⟨B,A⟩:=jw k v;have d:=za9 v;have z:=o.ah _ d;have y:=o.fH _ d;have w:=ki d;have C:=o.sum;obtain⟨e,m⟩:=m;have D:g.entries.l.length≤1000:=by
  rcases m with⟨a,_⟩|⟨_,a,_⟩|⟨_,_,_,a,_⟩
  . exact absurd h a
  . exact absurd u a
  . omega
 refine⟨by rw[x];omega,by rw[n];omega,by rw[n,x];exact A,by rw[n];exact y,fun t E=>?_⟩
 rcases m with⟨a,_⟩|⟨_,a,_⟩|⟨_,_,_,_,a,_⟩
 . exact absurd h a
 . exact absurd u a
 . obtain ⟨b, F, i, s, H, J, rfl⟩ := oE.1 ((a t).1 E)
   obtain⟨q,r,rfl⟩:=zcv F;obtain⟨L,_,I,G⟩:=lB k r s H;refine⟨I,?_⟩;rw[n];subst J;exact G
def aR (k r:Int):Int:=if r<0 then r else k+r
theorem jZ {k r:Int}(h:0≤r):aR k r=k+r:=by unfold aR;grind
theorem mC {k r:Int}(h:r<0):aR k r=r:=by unfold aR;omega
def qU (i:Ins)(k:Int):Ins:={ i with d:=aR k i.d,a:=aR k i.a,b:=aR k i.b,l:=⟨i.l.l.map (aR k),by rw[zba];exact i.l.h⟩ }
abbrev gw (i:Ins)(d a b:Int)(l:BL Int):Ins:={ i with d:=d,a:=a,b:=b,l:=l }
abbrev cD (i:Ins):Prop:=i.op≠3∧0≤i.b∧i.b≠i.a
abbrev dF (i:Ins):Prop:=i.op≠3∧0≤i.d
def fK (k:Int)(i:Ins):List Ins:=(if 0≤i.a then [cq 0 (aR k i.a)] else [])++(if cD i then [cq 1 (aR k i.b)] else [])
def xF (k:Int)(i:Ins):Ins:=gw i (if dF i then 2 else aR k i.d) (if 0≤i.a then 0 else aR k i.a) (if i.op≠3∧0≤i.b then (if i.b=i.a then 0 else 1) else aR k i.b) ⟨i.l.l.map (aR k),by rw[zba];exact i.l.h⟩
def fJ (k:Int)(i:Ins):List Ins:=if dF i then [cq (aR k i.d) 2] else []
def b_ (k:Int)(i:Ins):List Ins:=fK k i++xF k i::fJ k i
def bX (i:Ins):Nat:=(if 0≤i.a then 1 else 0)+(if cD i then 1 else 0)
theorem yk {k:Int}{i:Ins}:(fK k i).length=bX i:=by
 unfold fK bX;rw[zbk]
 grind
theorem Xf {k:Int}{i:Ins}:(fJ k i).length=if dF i then 1 else 0:=by
 unfold fJ
 grind
theorem pH {k:Int}{i:Ins}:(b_ k i).length=bX i+1+(if dF i then 1 else 0):=by
 unfold b_;rw[zbk,zbd,yk,Xf];omega
theorem Xi {i:Ins}:bX i≤2:=by unfold bX;grind
theorem AB {k:Int}{i:Ins}:1≤(b_ k i).length∧(b_ k i).length≤4:=by
 rw[pH];have:=@Xi i
 grind
theorem ud {k:Int}{i y:Ins}{s:Nat}(h:(b_ k i)[s]? = some y) :
 (s=0∧s<bX i∧0≤i.a∧y=cq 0 (k+i.a))∨(s+1=bX i∧cD i∧y=cq 1 (k+i.b))∨(s=bX i∧y=xF k i)∨(s=bX i+1∧(b_ k i).length=s+1∧dF i∧y=cq (k+i.d) 2):=by
 have o:=@pH k i;have f:s<(b_ k i).length:=(zbn.1 h).1;rw[o] at f;unfold b_ at h
 by_cases c:s<bX i
 . rw [zbM (by rw [yk]; exact c)] at h
   unfold fK at h;unfold bX at c ⊢
   by_cases g:0≤i.a
   . rw [if_pos g] at h c ⊢
     by_cases e:cD i
     . rw [if_pos e] at h c ⊢
       match s,c,h with
       | 0,_,h=>simp at h;exact .inl ⟨rfl,aa,g,by rw[<-h,jZ g]⟩
       | 1,_,h=>simp at h;exact .inr (.inl ⟨rfl,e,by rw[<-h,jZ e.2.1]⟩)
       | (n+2),c,_=>omega
     . rw [if_neg e] at h c ⊢
       match s,c,h with
       | 0,_,h=>simp at h;exact .inl ⟨rfl,aa,g,by rw[<-h,jZ g]⟩
       | (n+1),c,_=>omega
   . rw [if_neg g] at h c ⊢
     by_cases e:cD i
     . rw [if_pos e] at h c ⊢
       match s,c,h with
       | 0,_,h=>simp at h;exact .inr (.inl ⟨rfl,e,by rw[<-h,jZ e.2.1]⟩)
       | (n+1),c,_=>omega
     . rw [if_neg e] at c
       omega
 . rw [zbv (by rw [yk]; omega), yk] at h
   by_cases m:s=bX i
   . rw [m, zcB] at h
     simp at h;exact .inr (.inr (.inl ⟨m,h.symm⟩))
   . by_cases j : dF i
     . rw [if_pos j] at f
       have l:s=bX i+1:=aa;rw[l,show bX i+1 - bX i=0+1 from aa,zcH] at h
       unfold fJ at h;rw[if_pos j] at h;simp at h;refine .inr (.inr (.inr ⟨l,by rw[o,if_pos j];omega,j,by rw[<-h,jZ j.2]⟩))
     . rw [if_neg j] at f
       omega
def dC (k:Int)(l:List Ins):List Ins:=l.flatMap (b_ k)
def cO (k:Int)(l:List Ins)(n:Nat):Nat:=(dC k (l.take n)).length
def dW (k:Int)(n:Nat)(i:Ins):List Int:=replicate (bX i) (-1)++(n:Int)::replicate (if dF i then 1 else 0) (-1)
def cI (k:Int):Nat->List Ins->List Int
 | _,[]=>[]
 | n,i::l=>dW k n i++cI k (n+1) l
def eM (k:Int)(l:List Ins)(m:Nat):List Int:=(List.range m).map fun n=>(cO k l n:Int)
theorem sA {k:Int}{n:Nat}{i:Ins}:(dW k n i).length=(b_ k i).length:=by
 unfold dW;rw[zbk,zbd,zcm,zcm,pH];omega
theorem uV {k:Int}:∀{l:List Ins} {n:Nat},(cI k n l).length=(dC k l).length
 | [],_=>rfl
 | i :: l, n => by
   show(dW k n i++cI k _ l).length=(b_ k i++dC k l).length;rw[zbk,zbk,sA,uV]
theorem Jc {k:Int}:∀{l:List Ins} {n:Nat} {i:Ins},cI k n (l++[i])=cI k n l++dW k (n+l.length) i
 | [],n,i=>by show dW k n i++[]=[]++dW k _ i;simp
 | x :: l, n, i => by
   show dW k n x++cI k _ (l++[i])=dW k n x++cI k _ l++dW k (n+(l.length+1)) i;rw[Jc,zch,show n+1+l.length=n+(l.length+1) from by omega]
theorem Ku {k:Int}{l m:List Ins}:dC k (l++m)=dC k l++dC k m:=flatMap_append
theorem X7 {k:Int}{i:Ins}:dC k [i]=b_ k i:=by unfold dC;simp
theorem Ky {k:Int}{l:List Ins}{m:Nat}(h:m<l.length):dC k (l.take (m+1))=dC k (l.take m)++b_ k l[m]:=by
 rw[zbi h,Ku,X7]
theorem of_next {k:Int}{l:List Ins}{m:Nat}(h:m<l.length):cI k 0 (l.take (m+1))=cI k 0 (l.take m)++dW k m l[m]:=by
 rw[zbi h,Jc,zce,zbA,zcw aa]
theorem Nt {k:Int}{l:List Ins}{m:Nat}:eM k l (m+1)=eM k l m++[((dC k (l.take m)).length:Int)]:=by
 unfold eM;rw[zcW,zb9];rfl
theorem Ns {k:Int}{l:List Ins}{m:Nat}:(eM k l m).length=m:=by simp[eM]
theorem Eb {k:Int}{l:List Ins}{m n:Nat}(h:n<m):(eM k l m).getD n 0=(cO k l n:Int):=by simp[eM,h]
theorem Dq {k:Int}:∀{l:List Ins},(dC k l).length≤4 * l.length
 | []=>zbm _
 | i :: l => by
   show(b_ k i++dC k l).length≤_;have:=@Dq k l;have:=(@AB k i).2
   grind
theorem vr {k:Int}{l:List Ins}{m:Nat}(h:m<l.length):cO k l (m+1)=cO k l m+(b_ k l[m]).length:=by
 unfold cO;rw[Ky h,zbk]
theorem zu {k:Int}{l:List Ins}:cO k l l.length=(dC k l).length:=by unfold cO;simp
theorem Lv {l:List Ins}{n:Nat}(h:n<l.length):l=l.take n++l[n]::l.drop (n+1):=by
 simp
theorem Fa {k:Int}{l:List Ins}{n s:Nat}(h:n<l.length)(a:s<(b_ k l[n]).length):(dC k l)[cO k l n+s]? = (b_ k l[n])[s]?:=by
 have e:dC k l=dC k (l.take n)++(b_ k l[n]++dC k (l.drop (n+1))):=by
  conv=>lhs;rw[Lv h]
  rw[Ku];rfl
 rw[e,zbv (by unfold cO;omega),show cO k l n+s - (dC k _).length=s from by unfold cO;omega,zbM a]
theorem CO {k:Int}:∀{a b:List Ins} {n:Nat},cI k n (a++b)=cI k n a++cI k (n+a.length) b
 | [],b,n=>rfl
 | x :: a, b, n => by
   show dW k n x++cI k _ (a++b)=dW k n x++cI k _ a++cI k (n+(a.length+1)) b;rw[CO,zch,show n+1+a.length=n+(a.length+1) from by omega]
theorem CN {k:Int}{n s:Nat}{i:Ins}(c:s<(b_ k i).length):(dW k n i)[s]? = some (if s=bX i then (n:Int) else -1):=by
 rw[pH] at c;unfold dW
 by_cases b:s<bX i
 . rw[zbM (by rw[zcm];exact b),zcg,if_pos b,if_neg aa]
 . rw [zbv (by rw [zcm]; omega), zcm]
   by_cases a:s=bX i
   . rw[a,zcB,if_pos rfl];rfl
   . rw[if_neg a,show s - bX i=(s - bX i - 1)+1 from aa,zcH,zcg,if_pos aa]
theorem CP {k:Int}{l:List Ins}{n s:Nat}(h:n<l.length)(a:s<(b_ k l[n]).length):(cI k 0 l)[cO k l n+s]? = some (if s=bX l[n] then (n:Int) else -1):=by
 have e:cI k 0 l=cI k 0 (l.take n)++(dW k n l[n]++cI k (n+1) (l.drop (n+1))):=by
  conv=>lhs;rw[Lv h]
  rw[CO,zce,zbA,zcw aa];rfl
 have b:(cI k 0 (l.take n)).length=cO k l n:=uV;rw[e,zbv aa,show cO k l n+s - (cI k 0 (l.take n)).length=s from aa,zbM (by rw[sA];exact a),CN a]
theorem zv {k:Int}{l:List Ins}:∀{n m:Nat},n≤m->m≤l.length->cO k l n≤cO k l m
 | n,0,h,_=>by grind
 | n, m + 1, h, b => by
   by_cases e:n=m+1
   . grind
   . rw [vr aa]
     exact zbu (zv aa aa) (zco _ _)
theorem A9 {k:Int}{l:List Ins}:∀{m p:Nat},m≤l.length->p<cO k l m->∃n s,∃h:n<l.length,s<(b_ k l[n]).length∧p=cO k l n+s
 | 0,p,_,h=>absurd h (zbK _)
 | m + 1, p, c, h => by
   by_cases b:p<cO k l m
   . exact A9 aa b
   . rw [vr aa] at h
     exact⟨m,p - cO k l m,aa,aa,aa⟩
theorem wI {k:Int}{l:List Ins}{n m s t:Nat}(f:n<l.length)(p:m≤l.length)(q:s<(b_ k l[n]).length)(i:∀h:m<l.length,t<(b_ k l[m]).length)(j:m=l.length->t=0)(e:cO k l n+s=cO k l m+t):n=m∧s=t:=by
 by_cases g:n<m
 . have a := vr (k := k) f
   have b:=zv (k:=k) (l:=l) (show n+1≤m from g) p
   omega
 . by_cases o : m < n
   . have c : m < l.length := aa
     have a:=vr (k:=k) c;have b:=zv (k:=k) (l:=l) (show m+1≤n from o) aa
     have:=i c;omega
   . have : n = m := aa
     subst this;exact⟨rfl,aa⟩
end Go.Ago
namespace Go.Ago
open Go.Proofs List Nat Tryz
attribute [local irreducible] bA bw aV bp bG wr aZ bF comp DC DP DW DV
structure j6 (l:List Int)(r:Int)(n:Nat):Prop where
 le:n≤l.length
 lo:∀(i:Nat) (h:i<l.length),i<n->l[i]<r
 hi:∀(i:Nat) (h:i<l.length),n≤i->r≤l[i]
structure kD (l:List Int)(r:Int)(x:Nat×Nat):Prop where
 le:x.1≤x.2∧x.2≤l.length
 lo:∀(i:Nat) (h:i<l.length),i<x.1->l[i]<r
 hi:∀(i:Nat) (h:i<l.length),x.2≤i->r≤l[i]
theorem xo {l:List Int}(h:bk l){i j:Nat}(b:j<l.length)(a:i<j):l[i]'aa<l[j]:=pairwise_iff_getElem.1 h i j _ _ a
theorem kD.start {l:List Int}{r:Int}:kD l r (0,l.length):=⟨⟨zbq _,zbm _⟩,fun i h a=>absurd a (ag),fun i h a=>absurd h (aa)⟩
theorem kD.up {l:List Int}{r:Int}{lo hi m:Nat}(d:bk l)(h:kD l r (lo,hi))(f:m<hi)(j:l[m]'(by have:=h.le.2;dsimp only at this;omega)<r)(g:lo≤m):kD l r (m+1,hi):=⟨⟨aa,h.le.2⟩,fun i c k=>by
 have a:m<l.length:=by grind
 by_cases e:i=m
 . grind
 . have:=xo d a (show i<m by omega);omega,h.hi⟩
theorem kD.dn {l:List Int}{r:Int}{lo hi m:Nat}(c:bk l)(h:kD l r (lo,hi))(j:m<hi)(f:¬l[m]'(by have:=h.le.2;dsimp only at this;omega)<r)(d:lo≤m):kD l r (lo,m):=⟨⟨d,by grind⟩,h.lo,fun i a g=>by
 by_cases e:i=m
 . grind
 have:=xo c a (show m<i by omega);omega⟩
theorem kD.end_ {l:List Int}{r:Int}{lo hi:Nat}(h:kD l r (lo,hi))(c:¬lo<hi):j6 l r lo:=⟨by have:=h.le;omega,h.lo,fun i a b=>h.hi i _ (aa)⟩
theorem j6.yes {l:List Int}{r:Int}{n:Nat}(h:n<l.length)(e:l[n]=r):r∈l:=by grind
theorem j6.no {l:List Int}{r:Int}{n:Nat}(b:j6 l r n)(e:bk l)(h:∀h:n<l.length,l[n]≠r):r∉l:=fun d=>by
 obtain⟨i,a,rfl⟩:=zbo.1 d
 by_cases c:i<n
 . have:=b.lo i a c;omega
 . by_cases g : i = n
   . grind
   . have f : n < l.length := aa
     have k:=xo e a (show n<i by omega)
     have j:=b.hi n f (zbm _);omega
theorem Dw (l:List Int)(hinc:bk l)(r:Int)(hl:l.length≤100000):af 90 [aT l,i64 r] (fun ae=>∃(n:Nat) (b:Bool),ae = .ret (.ao [i64 n,.bool b])∧j6 l r n∧b=decide (r∈l)):=by
 refine zw func90 ?_
 conv=>whnf
 refine DW.aO aC aD [0,1,4,5,6] [] 0 (fun x:{x:Nat×Nat // kD l r x}=>[(7,i64 x.1.1),(8,i64 x.1.2)]) (fun _=>[]) [] (fun x=>x.1.2 - x.1.1) (⟨(0,l.length),kD.start⟩) ?_
 conv=>whnf
 refine⟨?_,fun x=>?_⟩
 . conv => whnf
   (exact NO)
 rcases x with⟨⟨a,hi⟩,hx⟩
 have hx1:=hx.le.1;have hx2:=hx.le.2;dsimp only at hx1 hx2;refine zk ?_
 repeat' ((first|(refine Rq.mk (HW (lo:=a) (hi:=hi) aa (by rw[zba];omega)) ?_)|refine az.mk _ (Jr (l:=l) (lo:=a) (hi:=hi) aa aa) ?_|refine az.mk _ (bO (l:=l) (i:=a) aa) ?_|(refine zp ?_ ?_<;>intro h)|(refine DC.pure rfl (Ir (l[(a+hi) / 2]'aa) r) ?_;rintro _ (⟨rfl,hc⟩|⟨rfl,hc⟩))|(refine DC.pure rfl (T2 (l[a]'aa)) ?_;rintro _ rfl))<;>refine zk ?_)
 . refine ⟨⟨((a + hi) / 2 + 1, hi), hx.up hinc aa hc aa⟩, ?_, rfl, bH⟩
   conv=>whnf
   repeat' first|exact True.intro|exact zbc (AV.int .i64) (by(try dsimp only);rw[sr aa,aE aa aa];(try omega))|rfl|refine And.intro ?_ ?_
 . refine ⟨⟨(a, (a + hi) / 2), hx.dn hinc aa hc aa⟩, ?_, rfl, bH⟩
   conv=>whnf
   repeat' first|exact True.intro|exact zbc (AV.int .i64) (by(try dsimp only);rw[sr aa])|rfl|refine And.intro ?_ ?_
 all_goals first
  | exact⟨a,true,rfl,hx.end_ aa,(zbF (j6.yes (n:=a) aa bD)).symm⟩
  | exact⟨a,false,rfl,hx.end_ aa,(zbT ((hx.end_ aa).no hinc fun h=>(by first|assumption|(exfalso;omega)))).symm⟩
end Go.Ago
namespace Go.Ago
open Go.Proofs List Nat Tryz
structure SimI (x y:Ins):Prop where
 eq:y={ x with d:=y.d,a:=y.a,b:=y.b,l:=y.l,n:=y.n,m:=y.m }
 n:x.op≠14->x.op≠15->x.op≠16->y.n=x.n
 m:x.op≠28->x.op≠29->y.m=x.m
 d:(x.d = -1∧y.d = -1)∨(0≤x.d∧0≤y.d)
 a:(x.a = -1∧y.a = -1)∨(0≤x.a∧0≤y.a)
 b:(x.b = -1∧y.b = -1)∨(0≤x.b∧0≤y.b)
 l:y.l.l.length=x.l.l.length
theorem SimI.op {x y:Ins}(h:SimI x y):y.op=x.op:=by rw[h.eq]
theorem SimI.p {x y:Ins}(h:SimI x y):y.p=x.p:=by rw[h.eq]
theorem SimI.bare {x y:Ins}(h:SimI x y)(r:ir x):ir y:=by
 have s:=h.op;have g:=r.2;have F:y.t=x.t:=by rw[h.eq]
 have G:y.u=x.u:=by rw[h.eq]
 have z:y.w=x.w:=by rw[h.eq]
 have E:y.v=x.v:=by rw[h.eq]
 have A:y.f=x.f:=by rw[h.eq]
 have B:y.y=x.y:=by rw[h.eq]
 have C:y.size=x.size:=by rw[h.eq]
 have D:y.range=x.range:=by rw[h.eq]
 refine⟨by rw[s];exact r.1,fun e o=>?_⟩
 rw[s];unfold gL at o g;simp only[zbB,zb2,zca] at o g;have j:∀{p q:Int} {c:UInt8},((p = -1∧q = -1)∨(0≤p∧0≤q))->(aV p (-1)=true∨hasB x.op c=true)->(aV q (-1)=true∨hasB x.op c=true):=fun i H=>by
  refine H.imp (fun I=>?_) id
  rw[mZ] at I ⊢;rcases i with i|i
  . exact i.2
  . omega
 rcases o with rfl|rfl|rfl|rfl|rfl|rfl|rfl|rfl|rfl|rfl|rfl|rfl|rfl|rfl|rfl
 . exact j h.d (g (68,aV x.d (-1)) ag)
 . exact j h.a (g (65,aV x.a (-1)) ag)
 . exact j h.b (g (66,aV x.b (-1)) ag)
 . have := g (76, aV ((x.l.l.map fun n => [i64 n]).length : Int) 0) ag
   simp only[zba] at this ⊢;rw[h.l];exact this
 . rw[F];exact g _ (.inr (.inr (.inr (.inr (.inl rfl)))))
 . rw[G];exact g _ (.inr (.inr (.inr (.inr (.inr (.inl rfl))))))
 . rw[z];exact g _ (.inr (.inr (.inr (.inr (.inr (.inr (.inl rfl)))))))
 . by_cases i : x.op = 14 ∨ x.op = 15 ∨ x.op = 16
   . refine .inr ?_
     rcases i with i|i|i<;>(rw[i];rfl)
   . rw[h.n aa aa aa];exact g _ (.inr (.inr (.inr (.inr (.inr (.inr (.inr (.inl rfl))))))))
 . by_cases i : x.op = 28 ∨ x.op = 29
   . refine .inr ?_
     rcases i with i|i<;>(rw[i];rfl)
   . rw[h.m aa aa];exact g _ (.inr (.inr (.inr (.inr (.inr (.inr (.inr (.inr (.inl rfl)))))))))
 . rw[h.p];exact g _ (.inr (.inr (.inr (.inr (.inr (.inr (.inr (.inr (.inr (.inl rfl))))))))))
 . rw[E];exact g _ (.inr (.inr (.inr (.inr (.inr (.inr (.inr (.inr (.inr (.inr (.inl rfl)))))))))))
 . rw[A];exact g _ (.inr (.inr (.inr (.inr (.inr (.inr (.inr (.inr (.inr (.inr (.inr (.inl rfl))))))))))))
 . rw[B];exact g _ (.inr (.inr (.inr (.inr (.inr (.inr (.inr (.inr (.inr (.inr (.inr (.inr (.inl rfl)))))))))))))
 . rw[C];exact g _ (.inr (.inr (.inr (.inr (.inr (.inr (.inr (.inr (.inr (.inr (.inr (.inr (.inr (.inl rfl))))))))))))))
 . rw[D];exact g _ (.inr (.inr (.inr (.inr (.inr (.inr (.inr (.inr (.inr (.inr (.inr (.inr (.inr (.inr rfl))))))))))))))
theorem V4 {d a:Int}:ir (cq d a):=by
 refine⟨⟨(by show(1:Int)≤3;omega),(by show(3:Int)≤38;omega)⟩,fun e b=>?_⟩
 unfold gL at b
 simp_all
 rcases b with rfl|rfl|rfl|rfl|rfl|rfl|rfl|rfl|rfl|rfl|rfl|rfl|rfl|rfl|rfl
 . exact .inr rfl
 . exact .inr rfl
 all_goals exact .inl rfl
structure Ag (k k':Kc)(x y:Ins):Prop extends SimI x y where
 hp:k'.c.p=k.c.p
 hq:k'.proc=k.proc
 rd:0≤y.d->aL k' y.d
 ra:0≤y.a->aL k' y.a
 rb:0≤y.b->aL k' y.b
 rl:∀r∈y.l.l,aL k' r
 tn:x.op=14∨x.op=15->cE k' k'.proc y.n
 tg:x.op=16->cE k' x.p y.n
 tm:x.op=28∨x.op=29->cE k' k'.proc y.m
theorem V7 {k:Kc}{d a:Int}(c:aL k d)(e:aL k a):jE k (cq d a):=⟨fun r b=>(by cases b),.inr (.inr (.inl ⟨.inl rfl,c,e⟩))⟩
theorem Ce {k:Kc}{r:Int}(h:aL k r):0≤r:=h.1
theorem Ag.right {k k':Kc}{x y:Ins}(h:Ag k k' x y)(G:jE k x):jE k' y:=by
 have L:=h.op;have D:y.t=x.t:=by rw[h.eq]
 have I:y.u=x.u:=by rw[h.eq]
 have O:y.w=x.w:=by rw[h.eq]
 have V:y.v=x.v:=by rw[h.eq]
 have X:y.f=x.f:=by rw[h.eq]
 have Q:y.y=x.y:=by rw[h.eq]
 have J:=h.p;have E:=h.hp;have H:=h.hq;have A:aL k x.d->aL k' y.d:=fun e=>h.rd (h.d.elim (fun o=>by have:=Ce e;omega) (·.2))
 have q:aL k x.a->aL k' y.a:=fun e=>h.ra (h.a.elim (fun o=>by have:=Ce e;omega) (·.2))
 have C:aL k x.b->aL k' y.b:=fun e=>h.rb (h.b.elim (fun o=>by have:=Ce e;omega) (·.2))
 have M:x.a = -1->y.a = -1:=fun e=>h.a.elim (·.2) fun o=>aa
 have K:x.b = -1->y.b = -1:=fun e=>h.b.elim (·.2) fun o=>aa
 have nd:x.d = -1->y.d = -1:=fun e=>h.d.elim (·.2) fun o=>aa
 have R:∀{r s m:Int},(aL k r->aL k' s)->(r = -1->s = -1)->kA k r m->kA k' s m:=fun f g e=>e.imp (fun o=>⟨g o.1,o.2⟩) fun o=>⟨f o.1,o.2⟩
 have Y:∀{S:Bool},lh k x.d S->lh k' y.d S:=fun e=>e.imp (fun o=>⟨o.1,A o.2⟩) fun o=>⟨o.1,nd o.2⟩
 have T:∀n,fV k' n=fV k n:=fun n=>by unfold fV;rw[E,H]
 have pa:∀z,mm k' z=mm k z:=fun z=>by unfold mm;rw[E]
 have N:∀z,z.toNat<k.c.p.procs.l.length->nH k' z=nH k z:=fun z P=>by rw[uY P,uY (by rw[E];exact P)];simp only[E]
 have B:¬(x.op=14∨x.op=15∨x.op=16)->y.n=x.n:=fun e=>h.n aa aa aa
 have F:¬(x.op=28∨x.op=29)->y.m=x.m:=fun e=>h.m aa aa
 refine⟨h.rl,?_⟩;have G:=G.2;unfold rf at G ⊢;rw[L];rcases G with⟨c,e⟩|⟨c,e⟩|⟨c,e⟩|⟨c,e⟩|⟨c,e⟩|⟨c,e⟩|⟨c,e⟩|⟨c,e⟩|⟨c,e⟩|⟨c,e⟩|⟨c,e⟩|⟨c,e⟩|⟨c,e⟩|⟨c,Z,c4,e⟩|⟨c,e⟩
 . exact .inl ⟨c,by rw[B aa];exact e⟩
 . exact .inr (.inl ⟨c,A e.1,by rw[D,V];exact e.2⟩)
 . exact .inr (.inr (.inl ⟨c,A e.1,q e.2⟩))
 . refine .inr (.inr (.inr (.inl ⟨c, A e.1, ?_⟩)))
   have o:=e.2;unfold lS at o ⊢;rw[B aa,F aa,J,T,pa,E];exact o
 . exact .inr (.inr (.inr (.inr (.inl ⟨c,q e⟩))))
 . exact .inr (.inr (.inr (.inr (.inr (.inl ⟨c,A e.1,q e.2.1,by rw[B aa];exact e.2.2⟩)))))
 . exact .inr (.inr (.inr (.inr (.inr (.inr (.inl ⟨c,A e.1,q e.2.1,C e.2.2.1,by rw[B aa,F aa,J];exact e.2.2.2⟩))))))
 . exact .inr (.inr (.inr (.inr (.inr (.inr (.inr (.inl ⟨c,A e.1,q e.2.1,by rw[D];exact e.2.2⟩)))))))
 . exact .inr (.inr (.inr (.inr (.inr (.inr (.inr (.inr (.inl ⟨c,q e.1,C e.2.1,by rw[D];exact e.2.2⟩))))))))
 . refine .inr (.inr (.inr (.inr (.inr (.inr (.inr (.inr (.inr (.inl ⟨c, A e.1, q e.2.1, ?_⟩)))))))))
   have o:=e.2.2;rw[B aa];simp only[D,I,O];exact o.imp (fun j=>⟨j.1,K j.2.1,j.2.2⟩) fun j=>⟨j.1,C j.2.1,j.2.2⟩
 . exact .inr (.inr (.inr (.inr (.inr (.inr (.inr (.inr (.inr (.inr (.inl ⟨c,A e.1,q e.2.1,by rw[D,I];exact e.2.2⟩))))))))))
 . exact .inr (.inr (.inr (.inr (.inr (.inr (.inr (.inr (.inr (.inr (.inr (.inl ⟨c,A e.1,by rw[B aa,h.l,Q,D];exact e.2⟩)))))))))))
 . refine .inr (.inr (.inr (.inr (.inr (.inr (.inr (.inr (.inr (.inr (.inr (.inr (.inl ⟨c, A e.1, q e.2.1, C e.2.2.1, ?_⟩))))))))))))
   rw[B aa];simp only[I,O];exact e.2.2.2
 . refine .inr (.inr (.inr (.inr (.inr (.inr (.inr (.inr (.inr (.inr (.inr (.inr (.inr (.inl ⟨c, Z, c4, ?_⟩)))))))))))))
   unfold lY at e ⊢;rw[L,B aa,D,X,Q,J,E,h.l];simp only[I,O];rcases e with⟨i,e⟩|⟨i,e⟩|⟨i,e⟩|⟨i,e⟩|⟨i,e⟩|⟨i,e⟩|⟨i,e⟩|⟨i,e⟩|⟨i,e⟩|⟨i,e⟩|⟨i,e⟩|i
   . exact .inl ⟨i,A e.1,e.2.1,e.2.2.1,by rw[F aa];exact R q M e.2.2.2⟩
   . exact .inr (.inl ⟨i,q e.1,by rw[F aa];exact R C K e.2⟩)
   . exact .inr (.inr (.inl ⟨i,e⟩))
   . exact .inr (.inr (.inr (.inl ⟨i,A e.1,e.2⟩)))
   . exact .inr (.inr (.inr (.inr (.inl ⟨i,e⟩))))
   . exact .inr (.inr (.inr (.inr (.inr (.inl ⟨i,A e.1,e.2.1,e.2.2.1,e.2.2.2.1,e.2.2.2.2.1,e.2.2.2.2.2.1,h.tm (.inl i)⟩)))))
   . exact .inr (.inr (.inr (.inr (.inr (.inr (.inl ⟨i,A e.1,e.2.1,e.2.2.1.imp (fun j=>⟨M j.1,j.2⟩) (fun j=>⟨q j.1,j.2⟩),e.2.2.2.1,h.tm (.inr i)⟩))))))
   . exact .inr (.inr (.inr (.inr (.inr (.inr (.inr (.inl ⟨i,e.1,e.2.1,q e.2.2.1,e.2.2.2.1,e.2.2.2.2.imp (fun j=>⟨j.1,K j.2.1,j.2.2⟩) (fun j=>⟨j.1,C j.2.1,j.2.2⟩)⟩)))))))
   . exact .inr (.inr (.inr (.inr (.inr (.inr (.inr (.inr (.inl ⟨i,q e.1,C e.2.1,by rw[F aa];exact e.2.2⟩))))))))
   . exact .inr (.inr (.inr (.inr (.inr (.inr (.inr (.inr (.inr (.inl ⟨i,A e.1,q e.2.1,C e.2.2.1,e.2.2.2⟩)))))))))
   . exact .inr (.inr (.inr (.inr (.inr (.inr (.inr (.inr (.inr (.inr (.inl ⟨i,A e⟩))))))))))
   . exact .inr (.inr (.inr (.inr (.inr (.inr (.inr (.inr (.inr (.inr (.inr i))))))))))
 . refine .inr (.inr (.inr (.inr (.inr (.inr (.inr (.inr (.inr (.inr (.inr (.inr (.inr (.inr ⟨c, ?_⟩)))))))))))))
   unfold kE at e ⊢;rw[L,J,E,H];have hk:=k.fQ;have hkl:=k.hlen;rcases e with⟨i,e⟩|⟨i,e⟩|⟨i,e⟩|⟨i,e⟩|⟨i,e⟩|⟨i,e⟩|⟨i,e⟩
   . exact .inl ⟨i,H ▸ h.tn (.inl i)⟩
   . exact .inr (.inl ⟨i,q e.1,H ▸ h.tn (.inr i)⟩)
   . exact .inr (.inr (.inl ⟨i,e.1,h.tg i⟩))
   . have U := ri e.1
     refine .inr (.inr (.inr (.inl ⟨i,?_⟩)));rw[B aa,N _ aa,h.l];exact⟨e.1,e.2.1,Y e.2.2⟩
   . refine .inr (.inr (.inr (.inr (.inl ⟨i, ?_⟩))))
     rw[N _ aa];exact e.imp M fun j=>⟨q j.1,j.2⟩
   . refine .inr (.inr (.inr (.inr (.inr (.inl ⟨i, ?_⟩)))))
     rw[B aa,F aa];refine⟨e.1,e.2.imp id fun j=>?_⟩
     have U:=ri j.1;rw[N _ aa];exact j
   . exact .inr (.inr (.inr (.inr (.inr (.inr ⟨i,by rw[B aa];exact e⟩)))))
end Go.Ago
namespace Go.Ago
open Go.Proofs List Nat Tryz
attribute [local irreducible] bA bw aV bp bG wr aZ bF comp DC DP DW DV
abbrev aI.av (s:aI):AV := .agg (au s.all s.l)
theorem qb (s:aI)(hi:bk s.l)(d:s.l.length≤100000)(r:Int):af 66 [s.av,i64 r] (fun c=>c = .ret (.bool (s.has r))):=by
 refine zw func66 ?_;refine zg ?_
 repeat' ((first|(refine zp ?_ ?_<;>intro h)|(refine DC.pure rfl (Dw s.l hi r d) ?_;rintro _ ⟨n,b,rfl,e,rfl⟩))<;>refine zg ?_)
 all_goals (congr 2;simp[aI.has, *])
theorem TR {l:List Int}(hi:bk l){r:Int}{n:Nat}(f:j6 l r n)(p:r∉l):iC l n r=jN l r:=by
 refine bk.ext ?_ (oA hi) fun x=>?_
 . unfold iC bk
   have q:bk (l.take n):=zcO (zc7 n l) hi;have k:bk (l.drop n):=zcO (drop_sublist n l) hi;refine pairwise_append.2 ⟨q,pairwise_cons.2 ⟨fun y m=>?_,k⟩,fun a o b d=>?_⟩
   . obtain ⟨i, h, rfl⟩ := zbo.1 m
     rw[getElem_drop];have c:n+i<l.length:=by rw[zcc] at h;omega
     have:=f.hi (n+i) c aa;have:l[n+i]≠r:=fun e=>p (by rw[<-e];exact za9 c)
     omega
   . obtain ⟨i, h, rfl⟩ := zbo.1 o
     have c:i<n∧i<l.length:=by rw[zbA] at h;omega
     rw[getElem_take];have s:=f.lo i c.2 c.1;rcases zbB.1 d with rfl|d
     . exact s
     . obtain ⟨j, t, rfl⟩ := zbo.1 d
       rw[getElem_drop];have g:n+j<l.length:=by rw[zcc] at t;omega
       have:=f.hi (n+j) g aa;omega
 . rw [hZ]
   unfold iC;rw[zbL,zbB];have:x∈l↔x∈l.take n∨x∈l.drop n:=by rw[<-zbL,zb7]
   grind
theorem pos_at {l:List Int}{r:Int}{n:Nat}(hi:bk l)(b:j6 l r n)(c:r∈l):∃h:n<l.length,l[n]=r:=by
 by_cases h:∃h:n<l.length,l[n]=r
 . exact h
 exact absurd c (b.no hi fun a e=>h ⟨a,e⟩)
theorem Q5 {l:List Int}(hi:bk l){r:Int}{n:Nat}(d:j6 l r n)(g:r∈l):iy l n=l.filter fun x=>!decide (x=r):=by
 obtain⟨f,e⟩:=pos_at hi d g;refine bk.ext ?_ (hi.filter _) fun x=>?_
 . unfold iy
   refine zcO ?_ hi
   conv=>rhs;rw[<-zb7 n l]
   grind
 . rw [zbY]
   unfold iy;rw[zbL];have j:x∈l↔x∈l.take n∨x=r∨x∈l.drop (n+1):=by
    conv=>lhs;rw[<-zb7 n l,zcr f,e]
    rw[zbL,zbB]
   have k:r∉l.take n:=fun h=>by
    obtain⟨i,a,c⟩:=zbo.1 h;rw[getElem_take] at c;have b:i<n∧i<l.length:=by rw[zbA] at a;omega
    have:=d.lo i b.2 b.1;omega
   have a:r∉l.drop (n+1):=fun h=>by
    obtain⟨i,a,c⟩:=zbo.1 h;rw[getElem_drop] at c;have b:n+1+i<l.length:=by rw[zcc] at a;omega
    have:=xo hi b (show n<n+1+i by omega)
    omega
   grind
theorem KJ (l:List Int)(a:bk l)(r:Int)(f:l.length≤100000):af 90 [aT l,i64 r] (fun e=>∃(n:Nat) (b:Bool),e = .ret (.ao [i64 n,.bool b])∧n≤l.length∧(n<l.length∨l.length≤n)∧j6 l r n∧b=decide (r∈l)):=by
 refine(Dw l a r f).mono ?_
 rintro _ ⟨n,b,rfl,c,d⟩
 exact⟨n,b,rfl,c.le,zbI _ _,c,d⟩
theorem Cw {H:aj}{n:Nat}:∀{l:List Int},aM (aM (snap H (n+1))) (l.map ic)=some (l.map ic):=fun {l}=>sn (by intro x a;obtain⟨y,_,rfl⟩:=zbG.1 a;rfl)
theorem Be {H:aj}{K m:Nat}{b:Bool}{es:List (List AV)}{l t:List Int}(c:H.get K=some (.arr 1 es))(d:es=(l++t).map ic)(a:m=l.length):snap H 20 (.agg [.bool b,.ay K 0 m 1])=some (.agg (au b l)):=by
 subst d;subst a;refine sV (da rfl (da (oZ c ag ?_) rfl));rw[zcV,zb9,take_append_of_le_length ag,zbj ag];exact Cw
theorem TQ {l:List Int}{r:Int}{n:Nat}(h:l.length≤n):iC l n r=l++[r]:=by
 unfold iC;rw[zbj h,drop_eq_nil_of_le h]
theorem S_ (r:Int):af 66 [.agg (au true []),i64 r] (fun b=>b = .ret (.bool true)):=by
 have:=qb ⟨true,[]⟩ bk.nil (ag) r
 simpa[aI.has] using this
theorem S9 (r:Int):af 66 [.agg (au false []),i64 r] (fun b=>b = .ret (.bool false)):=by
 have:=qb ⟨false,[]⟩ bk.nil (ag) r
 simpa[aI.has] using this
theorem Ys (r:Int):af 90 [aT [],i64 r] (fun c=>c = .ret (.ao [i64 0,.bool false])):=by
 refine(Dw _ bk.nil r (ag)).mono ?_
 rintro _ ⟨n,b,rfl,a,rfl⟩
 obtain rfl:n=0:=le_zero.1 a.le;rfl
theorem zaO (r:Int):af 170 [.agg (au true []),i64 r] (fun b=>b = .ret (.agg (au true [r]))):=by
 refine zw func170 ?_;refine zg ?_
 repeat' ((first|refine zf ?_|(refine zp ?_ ?_<;>first|exact⟨⟩|intro h)|(refine DC.pure rfl (S_ r) ?_;rintro _ rfl)|(refine DC.pure rfl (Ys r) ?_;rintro _ rfl)|(refine DC.pure rfl (FW) ?_;rintro _ rfl)|refine zd func207 ?_)<;>refine zg ?_)
 all_goals rfl
theorem zaN (r:Int):af 170 [.agg (au false []),i64 r] (fun b=>b = .ret (.agg (au false []))):=by
 have k1:=S9 r;exact zw func170 W
theorem Ib {l:List Int}:((l.map fun n=>[i64 n]).all fun e=>e.all AV.one)=true:=by
 rw[all_map,zbr];intro x _;rfl
theorem Ia {b a:Nat}(h:b≤200000)(c:a=8):ble (b * (a+1)) 140737488355328=true:=by
 subst c;exact zbs aa
theorem UG {i len c a b:Nat}(e:i+len≤c)(d:b=8)(f:len+a≤200000):(ble (i+len) c && ble ((len+a) * (b+1)) 140737488355328)=true:=by
 subst d;rw[zbs e,zbs aa];rfl
theorem NJ {b:Bool}{l:List Int}{r:Int}{n:Nat}(hi:bk l)(c:j6 l r n)(a:r∉l)(d:b=true):AE.ret (.agg [.bool true,.ak 1 ((iC l n r).map ic)])=AE.ret ((aI.mk b l).wo r).av:=by
 have h:(aI.mk true l).has r=true:=by simp[aI.has,a]
 rw[TR hi c a];unfold aI.wo
 grind
theorem zaQ {a:Bool}{l:List Int}{r:Int}{n:Nat}(hi:bk l)(c:j6 l r n)(d:r∉l)(e:a=true)(b:l.length≤n):AE.ret (.agg (au true (l++[r])))=AE.ret ((aI.mk a l).wo r).av:=by
 rw[<-TQ b];exact NJ hi c d e
theorem zaR {b:Bool}{l:List Int}{r:Int}{n:Nat}(hi:bk l)(c:j6 l r n)(a:r∈l)(d:b=false):AE.ret (.agg (au false (iy l n)))=AE.ret ((aI.mk b l).wo r).av:=by
 have h:(aI.mk false l).has r=true:=by simp[aI.has,a]
 rw[Q5 hi c a];unfold aI.wo
 grind
theorem zaS {s:aI}{r:Int}(h:s.has r=false):AE.ret s.av=AE.ret (s.wo r).av:=by
 unfold aI.wo
 grind
theorem zaP (g:Bool)(y:Int)(ys:List Int)(hi:bk (y::ys))(j:(y::ys).length≤100000)(r:Int):af 170 [.agg (au g (y::ys)),i64 r] (fun p=>p = .ret ((aI.mk g (y::ys)).wo r).av):=by
 have w:(y::ys).length=ys.length+1:=zbd;refine zw func170 ?_;refine zg ?_
 repeat' ((first|refine zf ?_|refine Br.t (b:=beq _ _) rfl ?_|(refine Rq.mk (UG tu aB tu) ?_)|refine Rq.mk Ib ?_|(refine Rq.mk (Ia (by simp only[zba,zbd] at *;omega) aB) ?_)|(refine zp ?_ ?_<;>first|exact⟨⟩|intro h)|(refine DC.pure rfl (qb ⟨g,y::ys⟩ hi j r) ?_;rintro _ rfl)|(refine zh rfl (qb ⟨g,y::ys⟩ hi j r) ?_;rintro _ rfl)|(refine DC.pure rfl (KJ (y::ys) hi r j) ?_;rintro _ ⟨n,b,rfl,e,(f|d),i,rfl⟩)|(refine zh rfl (KJ (y::ys) hi r j) ?_;rintro _ ⟨n,b,rfl,e,(f|d),i,rfl⟩)|(have m:=f;refine TY (y::ys) r n m j ag aB rfl rfl ab ?_)|(have m:=d;refine zd func207 ?_)|refine zd func16 ?_|(refine DC.BC (k:=_) (Q8 (y::ys) n (by obtain⟨m,_⟩:=pos_at hi i bD;exact m) ag aB (by rw[aE aa aa];omega)) rfl rfl rfl (iY (l:=y::ys)) ?_;rintro _ x _ ⟨rfl,u⟩;refine⟨_,_,_,rfl,_,u,iY,?_⟩)|refine zo ?_)<;>refine zg ?_)
 all_goals first
  | (exfalso;simp_all[aI.has];done)
  | (refine NJ hi i ?_ ?_<;>assumption)
  | (refine zaS (s:=⟨g,y::ys⟩) ?_;assumption)
  | (generalize c : snap _ _ _ = q
     obtain rfl:=c.symm.trans (Be (l:=iy (y::ys) n) (t:=[0]) rfl rfl rfl);refine zaR hi i ?_ ?_<;>assumption)
  | (generalize c : snap _ _ _ = q
     have o:=fun v=>c.symm.trans (Be (l:=(y::ys)++[r]) (t:=[]) rfl v ag)
     obtain rfl:=o (by simp;exact⟨zbj ag,rfl⟩)
     refine zaQ hi i ?_ ?_ ?_<;>assumption)
theorem NI (s:aI)(hi:bk s.l)(e:s.l.length≤100000)(r:Int):af 170 [s.av,i64 r] (fun c=>c = .ret (s.wo r).av):=by
 obtain⟨b,l⟩:=s;cases l with
 | nil =>
   cases b
   . exact zaN r
   exact zaO r
 | cons y f=>exact zaP _ y _ hi e r
def tH (a b:List Int)(n:Nat):Prop:=∀(i:Nat) (h:i<a.length) (c:i<b.length),i<n->a[i]=b[i]
theorem tH.step {a b:List Int}{n:Nat}(h:tH a b n)(d:n<a.length)(f:n<b.length)(e:a[n]=b[n]):tH a b (n+1):=fun i g j k=>by
 by_cases c:i=n
 . grind
 exact h i _ _ aa
theorem RN {a b:List Int}{n:Nat}(h:tH a b n)(c:a.length=b.length)(e:a.length≤n):AE.ret (.bool true)=AE.ret (.bool (decide (a=b))):=
 zbc (fun b=>AE.ret _) (zbF (zcx c fun i f d=>h i _ _ aa)).symm
theorem RM {a b:List Int}{n:Nat}(d:n<a.length)(f:n<b.length)(e:¬a[n]=b[n]):AE.ret (.bool false)=AE.ret (.bool (decide (a=b))):=
 zbc (fun b=>AE.ret _) (zbT fun c=>e (by grind)).symm
theorem RO (a b:List Int)(l:a.length≤100000)(j:b.length≤100000):af 24 [aT a,aT b] (fun f=>f = .ret (.bool (decide (a=b)))):=by
 refine zw func24 ?_;refine zg ?_
 repeat' ((refine zp ?_ ?_<;>intro h)<;>refine zg ?_)
 rotate_left
 . refine zbc (fun b => AE.ret (AV.bool b)) (zbT (p := a = b) fun e => ?_).symm
   subst e;omega
 refine DW.aO aC aD [0,1,4,12] [] 0 (fun x:{x:Nat // tH a b x}=>[(13,i64 x.1)]) (fun _=>[]) [] (fun x=>a.length+1 - x.1) (⟨0,fun i h k g=>absurd g (zbK _)⟩) ?_
 refine zl fun x=>?_
 have c:=x.2;refine zg ?_
 repeat' ((refine zp ?_ ?_<;>intro h)<;>refine zg ?_)
 . refine ⟨⟨x.1 + 1, c.step aa aa bD⟩, ?_, rfl, bH⟩
   conv=>whnf
   (exact o8)
 . refine RM (n:=x.1) ?_ ?_ ?_<;>first|assumption|omega
 . refine RN c ?_ ?_<;>omega
theorem KF (s t:aI)(b:s.l.length≤100000)(c:t.l.length≤100000):af 168 [s.av,t.av] (fun d=>d = .ret (.bool (s.same t))):=by
 obtain⟨e,l⟩:=s;obtain⟨f,m⟩:=t;refine zw func168 ?_;refine zg ?_
 repeat' ((first|(refine zp ?_ ?_<;>intro h)|(refine DC.pure rfl (RO l m b c) ?_;rintro _ rfl))<;>refine zg ?_)
 all_goals (congr 2;simp[aI.same, *])
end Go.Ago
section
namespace Go.Ago
open Go.Proofs List Nat Tryz
attribute [local irreducible] bA bw aV bp bG wr aZ bF comp DC DP DW DV
attribute [local irreducible] du ct aL cE dE dm dR dL bU dw dG bK bn bB eh
def cZ (c:Cd)(p:Int)(g:Gr):Prop:=∃a:p.toNat<c.b.l.length,g.ins=c.b.l[p.toNat].ins∧g.ah=c.b.l[p.toNat].ah∧∃e,eh c p g.entries.l e
theorem H8 (c:Cd)(n:Int):af 32 [c.av,i64 n] (jV (0≤n∧n<c.b.l.length)):=DP.dec (T4 c n)
theorem ZO (g:Gr):af 34 [g.av] (jV (g_ g)):=DP.dec (ZP g)
theorem Hv (c:Cd)(p:Int)(d:bK c.b.l≤100000)(e:0≤p∧p<c.b.l.length):af 33 [c.av,i64 p] (fun f=>∃g:Gr,f = .ret g.av∧cZ c p g):=by
 refine(SY c p d e).mono ?_
 rintro _ ⟨g,rfl,h,i,a⟩
 exact⟨g,rfl,aa,h,i,a⟩
theorem cZ.v {c:Cd}{p:Int}{g:Gr}{d a:Nat}(h:cZ c p g)(k:dS c d a)(i:a≤60)(hi:d≤1000)(j:0≤p∧p<c.b.l.length)(e:bU c=0):gA g:=by
 obtain⟨_,m,n,f⟩:=h;exact S3 k i hi j e m n f
abbrev cx (l:List Int):List AV:=[aT l]
def eo (bs:List Bd)(n:Nat):Nat:=((bs.take n).map fun b=>b.ins.l.length).sum
theorem LR {bs}:eo bs 0=0:=rfl
theorem D1 {bs:List Bd}{n:Nat}(h:n<bs.length):eo bs (n+1)=eo bs n+bs[n].ins.l.length:=by
 unfold eo;rw[zbi h,zb9];simp
theorem Z0 {bs:List Bd}:∀{n:Nat},eo bs n≤n * 281474976710656:=by
 intro n
 induction n with
 | zero=>simp[eo]
 | succ n c =>
   by_cases h:n<bs.length
   . rw[D1 h];have:=(bs[n]).ins.h;omega
   . have : eo bs (n + 1) = eo bs n := by unfold eo; rw [zbj aa, zbj aa]
     omega
theorem ZY {bs:List Bd}:eo bs bs.length=bK bs:=by unfold eo;rw[zcI];with_unfolding_all rfl
attribute [local irreducible] eo
def q_ (i:Ins):Prop:=40<i.l.l.length∨40<i.y.l.length∨40<i.f.l.length
def kG (l:List Ins)(n:Nat):Prop:=∀(k:Nat) (h:k<l.length),k<n->¬q_ l[k]
theorem kG.nil {l}:kG l 0:=fun _ _ h=>absurd h (ag)
theorem kG.step {l:List Ins}{n:Nat}(h:kG l n)(b:n<l.length)(c:¬q_ l[n]):kG l (n+1):=fun k d e=>by
 rcases zbI k n with a|a
 . exact h k _ a
 grind
theorem Vy (i:Ins):af 29 [i.av] (cc fun b=>b=true↔q_ i):=by
 refine zw func29 ?_;have d:=i.l.h;have e:=i.y.h;have c:=i.f.h;refine zg ?_
 repeat' ((refine zp ?_ ?_<;>intro h)<;>refine zg ?_)
 all_goals exact⟨_,rfl,by simp only[q_,true_iff,zcY,zbH];omega⟩
theorem Vx (i:Ins):af 29 [i.av] (jV (q_ i)):=DP.dec (Vy i)
theorem TK (l:BL Ins):af 71 [mc l.l,.fn (.func 29) [] []] (eS fun n=>n<0->kG l.l l.l.length):=by
 refine zw func71 ?_;have d:=l.h
 conv=>whnf
 refine DW.aO aC aD [0,1,4,7] [] 0 (fun n:{n:Nat // kG l.l n}=>[(8,i64 n.1)]) (fun _=>[]) [] (fun n=>l.l.length+1 - n.1) (⟨0,kG.nil⟩) ?_
 refine zl fun n=>?_
 refine zg ?_
 repeat' ((first|(refine zp ?_ ?_<;>intro h)|(refine DC.pure rfl (Vx (l.l[n.1]'aa)) ?_;rintro _ (⟨rfl,a⟩|⟨rfl,a⟩)))<;>refine zg ?_)
 all_goals first|exact⟨_,rfl,fun e=>aa⟩|exact⟨_,rfl,fun _ k c _=>n.2 k c aa⟩|exact zi ⟨n.1+1,kG.step n.2 aa a⟩
theorem S8 (l:BL Ins):af 28 [mc l.l,.fn (.func 29) [] []] (cc fun b=>b=false->kG l.l l.l.length):=by
 have k1:=TK l;exact zw func28 W
theorem ZW (c:Cd)(g:c.b.l.length≤70):af 27 [c.av] (fun m=>m = .ret (i64 (bK c.b.l))):=by
 refine zw func27 ?_;have p:=c.b.h;have j:=@LR c.b.l
 conv=>whnf
 refine DW.aO aC aD [1,2] [] 0 (fun n:{n:Nat // n≤c.b.l.length}=>[(4,i64 n.1),(3,i64 (eo c.b.l n.1))]) (fun _=>[]) [] (fun n=>c.b.l.length+1 - n.1) (⟨0,zbq _⟩) ?_
 refine zl fun n=>?_
 have o:=n.2;have i:=@Z0 c.b.l n.1;refine zg ?_
 repeat' ((refine zp ?_ ?_<;>intro h)<;>refine zg ?_)
 . have a : n.1 < c.b.l.length := aa
   have q:=D1 a;have r:=(c.b.l[n.1]).ins.h;have f:wr .i64 ((eo c.b.l n.1:Int)+((c.b.l[n.1]).ins.l.length:Int))=(eo c.b.l (n.1+1):Int):=by rw[aE aa aa];omega
   refine⟨⟨n.1+1,a⟩,?_,rfl,bH⟩
   conv=>whnf
   repeat' first|exact True.intro|rfl|apply And.intro|(refine cw ?_ ?_ ?_<;>(try dsimp only)<;>omega)|exact zbc (AV.int .i64) (by rw[zba];exact f)
 . have e : n.1 = c.b.l.length := aa
   exact zbc (fun k:Nat=>AE.ret (i64 (k:Int))) ((zbc (eo c.b.l) e).trans ZY)
def lj (c:Cd)(d a:Int)(n:Nat):Prop:=∀(k:Nat) (h:k<c.b.l.length),k<n->c.b.l[k].ah≤a∧(bK c.b.l:Int)≤d∧kG c.b.l[k].ins.l c.b.l[k].ins.l.length
theorem lj.nil {c b a}:lj c b a 0:=fun _ _ h=>absurd h (ag)
theorem lj.step {c:Cd}{d a:Int}{n:Nat}(h:lj c d a n)(f:n<c.b.l.length)(g:c.b.l[n].ah≤a)(i:(bK c.b.l:Int)≤d)(j:kG c.b.l[n].ins.l c.b.l[n].ins.l.length):lj c d a (n+1):=fun k m o=>by
 rcases zbI k n with e|e
 . exact h k _ e
 grind
theorem TU:bK []=0:=by with_unfolding_all rfl
theorem lj.ok {c:Cd}{e a:Nat}(f:c.b.l.length≤70)(h:lj c e a c.b.l.length):dS c e a:=by
 refine⟨f,fun b g=>?_,fun b g i o=>?_,?_⟩
 . obtain ⟨q, d, rfl⟩ := zcv g
   exact(h q d d).1
 . obtain ⟨q, d, rfl⟩ := zcv g
   obtain⟨k,n,rfl⟩:=zcv o;have:=(h q d d).2.2 k n n;unfold q_ at this;omega
 . rcases p : c.b.l with _ | ⟨b, r⟩
   . rw[TU];simp
   . have m : 0 < c.b.l.length := by rw [p]; simp
     have:=(h 0 m m).2.1
     grind
theorem nQ (c:Cd)(d a:Nat)(hi:d≤100000∧a≤100000):af 7 [c.av,i64 d,i64 a] (cc fun b=>b=true->dS c d a):=by
 refine zw func7 ?_;have o:=c.b.h;have m:=c.p.procs.h;refine zg ?_
 repeat' ((refine zp ?_ ?_<;>intro h)<;>refine zg ?_)
 all_goals first|exact⟨_,rfl,fun f=>absurd f ab⟩|skip
 have e:c.b.l.length≤70:=aa;refine DW.aO aC aD [1,2,3,6,21,22] [] 0 (fun n:{n:Nat // lj c d a n}=>[(23,i64 n.1)]) (fun _=>[]) [] (fun n=>c.b.l.length+1 - n.1) (⟨0,lj.nil⟩) ?_
 refine zl fun n=>?_
 refine zg ?_
 repeat' ((first|(refine zp ?_ ?_<;>intro h)|(refine DC.pure rfl (ZW c e) ?_;rintro _ rfl)|(refine DC.pure rfl (S8 (c.b.l[n.1]'aa).ins) ?_;rintro _ ⟨b,rfl,j⟩))<;>refine zg ?_)
 all_goals first
  | exact⟨_,rfl,fun _=>lj.ok e (fun k i _=>n.2 k i aa)⟩
  | exact⟨_,rfl,fun f=>absurd f ab⟩
  | exact zi ⟨n.1+1,lj.step n.2 aa aa aa (j bD)⟩
end Go.Ago
end
namespace Go.Ago
open Go.Proofs List Nat Tryz
theorem W1 {l:List Int}{n:Nat}(h:l.Pairwise (·<·))(b:∀x∈l,0≤x∧x≤(n:Int)):l.length≤n+1:=
 CJ _ l (h.imp fun h=>aa) fun x a=>by grind
def tJ (c:Cd)(p:Int)(m:Nat):Prop:=∀b∈c.b.l,∀i∈b.ins.l,i.op=16->i.p=p->0≤i.n∧i.n≤(m:Int)
theorem Gx {c:Cd}{p e:Int}{l:List Int}{m:Nat}(h:eh c p l e)(f:tJ c p m):∀x∈l,0≤x∧x≤(m:Int):=by
 rcases h with⟨_,_,rfl⟩|⟨_,_,_,rfl⟩|⟨_,_,_,_,a,_⟩
 . simp
 . simp
 intro x g;obtain⟨b,j,i,k,n,d,rfl⟩:=oE.1 ((a x).1 g);exact f b j i k n d
theorem Rn {c:Cd}{p e:Int}{l:List Int}{m:Nat}(h:eh c p l e)(d:tJ c p m):l.length≤m+1:=by
 have b:=Gx h d;rcases h with⟨_,_,rfl⟩|⟨_,_,_,rfl⟩|⟨_,_,_,_,_,a⟩
 . simp
 . simp
 exact W1 a b
theorem C2:∀{l r:List Int},l.Pairwise (·<·)->r.Pairwise (·<·)->(∀x,x∈l↔x∈r)->l=r
 | [],[],_,_,_=>rfl
 | [],y::r,_,_,h=>absurd ((h y).2 ag) ag
 | x::l,[],_,_,h=>absurd ((h x).1 ag) ag
 | x :: l, y :: r, c, d, h => by
   rw[pairwise_cons] at c d;have b:x=y:=by
    rcases zbB.1 ((h x).1 ag) with b|b
    . exact b
    . rcases zbB.1 ((h y).2 ag) with f|f<;>grind
   subst b
   congr 1
   refine C2 c.2 d.2 fun z=>⟨fun e=>?_,fun e=>?_⟩<;>grind
theorem Hw {c:Cd}{p e:Int}{g:Gr}(h:0≤g.ah∧g.ah≤60)(j:g.ins.l.length≤900)(d:∀i∈g.ins.l,InsV g.ah g.ins.l.length i)(f:∀i∈g.ins.l,i.l.l.length≤40)(a:eh c p g.entries.l e)(b:tJ c p g.ins.l.length):gA g:=
 ⟨aa,⟨aa,by have:=Rn a b;omega⟩,d,f,Gx a b⟩
end Go.Ago
section
namespace Go.Ago
open Go.Proofs List Nat Tryz
attribute [local irreducible] bA bw aV bp bG wr aZ bF comp DC DP DW DV
attribute [local irreducible] du ct aL cE dE dm dR dL bU dw dG bK bn bB eh
def fY (a:List Int)(r:Int):Int:=if r = -1 then -1 else a.getD r.toNat 0
def re (a:List Int)(r:Int):Prop:=r = -1∨(0≤r∧r<a.length∧0≤a.getD r.toNat 0)
theorem getD_at {l:List Int}{n:Int}(h:n.toNat<l.length):l.getD n.toNat 0=l[n.toNat]:=by grind
def nJ (i:Ins)(c:List Int):Ins:={ i with d:=fY c i.d,a:=fY c i.a,b:=fY c i.b,l:=⟨i.l.l.map (fY c),by rw[zba];exact i.l.h⟩ }
theorem u6 (a:BL Int)(r:Int)(h:re a.l r):af 94 [i64 r,.bm [aT a.l],.bm [.bool true]] (fun f=>f = .ret (i64 (fY a.l r))):=by
 refine zw func94 ?_;have j:=a.h;have i:r = -1∨(0≤r∧r<a.l.length):=h.imp id fun h=>⟨h.1,h.2.1⟩
 have d:¬r = -1->∀b:r.toNat<a.l.length,¬a.l[r.toNat]<0:=fun e b g=>by
  rcases h with h|⟨_,_,h⟩
  . exact e h
  . rw[getD_at b] at h;omega
 refine zg ?_
 repeat' ((refine zp ?_ ?_<;>first|exact⟨⟩|intro h)<;>refine zg ?_)
 . rw[fY,if_pos h,h]
 . exact absurd bD (d bD _)
 . rw[fY,if_neg bD,getD_at]
theorem lM {H:aj}{n:Nat}{cs a:List AV}(h:aM (snap H n) cs=some a):snap H (n+1) (.agg cs)=some (.agg a):=by simp[snap,h]
theorem qS {α a:Type}{f:α->a}{l:List α}{n:Nat}(h:n<l.length):(l.take (n+1)).map f=(l.take n).map f++[f l[n]]:=by
 rw[zbi h,zb9];rfl
attribute [local irreducible] fY
def Af (i:Ins)(c:List Int):Prop:=re c i.d∧re c i.a∧re c i.b∧∀r∈i.l.l,re c r
theorem XT (i:Ins)(c:BL Int)(s:i.l.l.length≤40)(j:Af i c.l):af 53 [i.av,aT c.l] (fun t=>∃v,t = .ret (.ao [.agg ((nJ i c.l).cells.set 25 v),i64 0])∧gg v (aT (i.l.l.map (fY c.l)))):=by
 refine zw func53 ?_;have w:=c.h;refine zg ?_
 repeat' ((first|(refine DV.flat rfl (u6 c i.d j.1) ?_;rintro _ rfl;refine⟨_,rfl,rfl,?_⟩)|(refine DV.flat rfl (u6 c i.a j.2.1) ?_;rintro _ rfl;refine⟨_,rfl,rfl,?_⟩)|(refine DV.flat rfl (u6 c i.b j.2.2.1) ?_;rintro _ rfl;refine⟨_,rfl,rfl,?_⟩))<;>refine zg ?_)
 refine DW.aO aC aD [2,4,5,6,7,28,29] [] 2000 (fun x:{x:Nat×List Int // x.2=(i.l.l.take x.1).map (fY c.l)∧x.1≤i.l.l.length}=>[(30,i64 x.1.1),(8,fu 1000 1 (x.1.2.map ic))]) (fun x=>fq 1000 1 (x.1.2.map ic)) [(1000,.slot 8)] (fun x=>i.l.l.length+1 - x.1.1) (⟨(0,[]),rfl,zbq _⟩) ?_
 refine zl fun x=>?_
 rcases x with⟨⟨m,_|⟨y,k⟩⟩,g,o⟩
 . dsimp only at g o
   have i_len:=zbc length g;simp only[zbp,zba,zbA] at i_len;refine zk ?_
   repeat' ((first|refine zf ?_|refine az.mk _ (bO (i:=m) aa) ?_|(refine zp ?_ ?_<;>intro h)|(refine DC.flat rfl (u6 c (i.l.l[m]'aa) (j.2.2.2 _ (za9 _))) ?_;rintro _ rfl;refine⟨rfl,?_⟩))<;>refine zk ?_)
   . (refine⟨⟨(m+1,[fY c.l (i.l.l[m]'aa)]),(by rw[qS aa,<-g];rfl),aa⟩,jC,rfl,bH⟩)
   . have e : i.l.l = [] := zbh aa
     exact⟨.ai,rfl,by rw[e];exact gg.n⟩
 . dsimp only at g o
   have i_len:=zbc length g;simp only[zbd,zba,zbA] at i_len;refine zk ?_
   repeat' ((first|refine zf ?_|(refine Rq.mk (eP 8 100000 ag rfl rfl lQ ab) ?_)|refine az.mk _ (bO (i:=m) aa) ?_|(refine zp ?_ ?_<;>intro h)|(refine DC.flat rfl (u6 c (i.l.l[m]'aa) (j.2.2.2 _ (za9 _))) ?_;rintro _ rfl;refine⟨rfl,?_⟩))<;>refine zk ?_)
   . (refine⟨⟨(m+1,y::(k++[fY c.l (i.l.l[m]'aa)])),(by rw[qS aa,<-g];rfl),aa⟩,jC,rfl,bH⟩)
   . generalize p : snap _ 20 _ = u
     obtain rfl:=p.symm.trans (o3 (n:=19) (lM (n:=18) (aJ rfl (aJ rfl (aJ rfl (aJ rfl (aJ rfl (aJ rfl (aJ rfl (aJ rfl (aJ rfl (aJ rfl (aJ rfl (aJ rfl (aJ rfl (aJ rfl (aJ rfl (aJ rfl (aJ rfl (aJ rfl (aJ rfl (aJ rfl (aJ rfl (aJ rfl (aJ rfl (aJ rfl (aJ rfl (aJ (gW (f:=ic) (n:=17) (fun _=>rfl) rfl) rfl))))))))))))))))))))))))))) rfl)
     conv=>whnf
     exact⟨aT (y::k),rfl,by rw[g,zbj aa];exact gg.r⟩
theorem EH {i:Ins}{v w:AV}(h:gg v w):fT gg (i.cells.set 25 v) (i.cells.set 25 w):=by
 simp[fT];exact⟨.r,.r,.r,.r,.r,.r,.r,.r,.r,.r,.r,.r,.r,.r,.r,.r,.r,.r,.r,.r,.r,.r,.r,.r,.r,h,.r,.r,.r⟩
theorem Ke (i:Ins)(b:BL Int)(a:i.l.l.length≤40)(d:Af i b.l):af 53 [i.av,aT b.l] (fun e=>e = .ret (.ao [(nJ i b.l).av,i64 0])):=by
 refine(XT i _ a d).oG ?_
 rintro _ ⟨v,rfl,c⟩
 exact⟨_,.ao [(nJ i _).av,i64 0],rfl,.inr ⟨_,_,rfl,rfl,.inr ⟨_,_,rfl,rfl,EH c⟩,.r,trivial⟩,rfl⟩
end Go.Ago
end
section
namespace Go.Ago
open Go.Proofs List Nat Tryz
attribute [local irreducible] bA bw aV bp bG wr aZ bF comp DC DP DW DV
attribute [local irreducible] du ct aL cE dE dm dR dL bU dw dG bK bn bB eh
theorem Oa {l:List Bd}:((l.map Bd.cells).all fun e=>e.all AV.one)=true:=by simp[AV.one]
theorem ry {l:List Bd}:((l.map Bd.cells).all fun e=>e.all hU)=true:=by simp[hU,l9,nf]
theorem QB (b:Bd)(bs:List Bd)(c:bs.length≤100):cM 18 [wg (b::bs)] .nil 0 (fun d H' _=>d = .ret (.ay 5 0 (bs.length+1) 2)∧H'.get 5=some (.arr 2 (b.cells::bs.map Bd.cells))):=by
 refine zd func18 ?_;refine zg ?_
 repeat' ((first|refine zf ?_|refine Rq.mk Oa ?_|(refine Rq.mk (ru 32 102 _ ag rfl rfl (by simp<;>omega) (by simp only[zba,zbd];omega)) ?_))<;>refine zg ?_)
 exact⟨zbc AE.ret (dX rfl rfl ag rfl),zbc some (e_ rfl ag)⟩
theorem rA (l:List Bd)(h:l≠[])(c:l.length≤100):cM 18 [wg l] .nil 0 (fun a H' _=>a = .ret (.ay 5 0 l.length 2)∧H'.get 5=some (.arr 2 (l.map Bd.cells))):=by
 rcases l with _|⟨b,d⟩
 . grind
 simp_all
 exact QB b _ aa
def kU (c:Cd)(p:Nat)(a:Bd):Cd:=⟨c.p,⟨c.b.l.set p a,by rw[zbP];exact c.b.h⟩⟩
theorem eV {α:Type}{l:List α}{f:α->List AV}{n:Int}(h:n.toNat<l.length):(l.map f)[0+n.toNat]? = some (f l[n.toNat]):=by simp[h]
theorem zaL (c:Cd)(p:Int)(d:Bd)(j:0≤p∧p<c.b.l.length)(a:c.b.l.length≤100):af 44 [c.av,i64 p,d.av] (fun k=>k = .ret (kU c p.toNat d).av):=by
 refine zw func44 ?_;have g:c.b.l≠[]:=fun e=>by rw[e] at j;simp at j;omega
 have q:=c.b.h;refine zk ?_
 repeat' ((first|refine DV.new rfl (rA c.b.l g a) ry rfl ?_|refine bR (eV aa) ?_)<;>refine zk ?_)
 generalize m:snap _ 20 _=o
 obtain rfl:=m.symm.trans (lM (n:=19) (aJ rfl (aJ rfl (aJ rfl (aJ rfl (aJ rfl (aJ rfl (aJ (fj (f:=Bd.cells) (l:=c.b.l.set p.toNat d) (n:=18) (fun _=>rfl) rfl (by rw[zcD,zce]) (by rw[zbP])) rfl))))))))
 rfl
def tN (l:List Int)(x:Nat×Int):Prop:=1≤x.1∧x.1≤l.length∧x.2∈l∧∀(j:Nat) (h:j<l.length),j<x.1->l[j]≤x.2
theorem tN.first {l:List Int}(h:0<l.length):tN l (1,l[0]):=⟨zbm _,h,za9 h,fun j b a=>by
 grind⟩
theorem tN.step {l:List Int}{m:Nat}{n:Int}(h:tN l (m,n))(d:m<l.length):tN l (m+1,max n l[m]):=⟨aa,d,by have a:n∈l:=h.2.2.1;grind,fun j e c=>by
 have c:j<m+1:=c;show l[j]≤max n l[m];rcases zbI j m with a|a
 . have := h.2.2.2 j e a
   have:l[j]≤n:=this;omega
 grind⟩
def lV (l:List Int)(n:Nat):Prop:=∀(k:Nat) (h:k<l.length),k<n->¬(l[k]<0∨4000≤l[k])
theorem lV.nil {l}:lV l 0:=fun _ _ h=>absurd h (ag)
theorem lV.step {l:List Int}{n:Nat}(h:lV l n)(b:n<l.length)(c:¬(l[n]<0∨4000≤l[n])):lV l (n+1):=fun k d e=>by
 rcases zbI k n with a|a
 . exact h k _ a
 grind
attribute [local irreducible] lV
end Go.Ago
end
namespace Go.Ago
open Go.Proofs List Nat Tryz
attribute [local irreducible] bA bw aV bp bG wr aZ bF comp DC DP DW DV
theorem Ob {l:List Ins}:((l.map Ins.cells).all fun e=>e.all AV.one)=true:=by simp[AV.one]
theorem kg {l:List Ins}:((l.map Ins.cells).all fun e=>e.all hU)=true:=by simp[hU,l9,nf]
theorem QG (b:Ins)(bs:List Ins)(c:bs.length≤100000):cM 19 [mc (b::bs)] .nil 0 (fun d H' _=>d = .ret (.ay 5 0 (bs.length+1) 29)∧H'.get 5=some (.arr 29 (b.cells::bs.map Ins.cells))):=by
 refine zd func19 ?_;refine zg ?_
 repeat' ((first|refine zf ?_|refine Rq.mk Ob ?_|(refine Rq.mk (ru 304 102 _ ag rfl rfl (by simp<;>omega) (by simp only[zba,zbd];omega)) ?_))<;>refine zg ?_)
 exact⟨zbc AE.ret (dX rfl rfl ag rfl),zbc some (e_ rfl ag)⟩
theorem kb (l:List Ins)(h:l≠[])(c:l.length≤100000):cM 19 [mc l] .nil 0 (fun a H' _=>a = .ret (.ay 5 0 l.length 29)∧H'.get 5=some (.arr 29 (l.map Ins.cells))):=by
 rcases l with _|⟨b,d⟩
 . grind
 simp_all
 exact QG b _ aa
end Go.Ago
section
namespace Go.Ago
open Go.Proofs List Nat Tryz
attribute [local irreducible] bA bw aV bp bG wr aZ bF comp DC DP DW DV
attribute [local irreducible] du ct aL cE dE dm dR dL bU dw dG bK bn bB eh fY lV
def a_ (n:Nat):List Int:=(List.range n).map fun k:Nat=>(k:Int)
theorem u4 (n:Nat):a_ (n+1)=a_ n++[(n:Int)]:=by simp[a_,zcW]
theorem ib (n:Nat):(a_ n).length=n:=by simp[a_]
theorem sq {n:Nat}{x:Int}:x∈a_ n↔0≤x∧x<n:=by
 simp[a_];exact⟨fun ⟨k,b,a⟩=>aa,fun h=>⟨x.toNat,aa,aa⟩⟩
theorem JZ:([]:List Int)=a_ 0:=rfl
attribute [local irreducible] a_
theorem WA (n:Nat)(k:n≤100000):af 45 [i64 n] (fun i=>∃v,i = .ret v∧gg v (aT (a_ n))):=by
 refine zw func45 ?_
 conv=>whnf
 refine DW.aO aC aD [2,5] [] 2000 (fun x:{x:Nat×List Int // x.2=a_ x.1∧x.1≤n}=>[(6,i64 x.1.1),(3,fu 1000 1 (x.1.2.map ic))]) (fun x=>fq 1000 1 (x.1.2.map ic)) [(1000,.slot 3)] (fun x=>n+1 - x.1.1) (⟨(0,[]),JZ,zbq _⟩) ?_
 refine zl fun x=>?_
 rcases x with⟨⟨m,_|⟨y,b⟩⟩,a,c⟩
 . dsimp only at a c
   have i_len:=zbc length a;simp only[zbp,ib] at i_len;refine zg ?_
   repeat' ((first|refine zf ?_|(refine zp ?_ ?_<;>intro h))<;>refine zg ?_)
   . (refine⟨⟨(m+1,[(m:Int)]),(by rw[u4,<-a];rfl),aa⟩,zH,rfl,bH⟩)
   . have e : n = m := aa
     exact⟨.ai,rfl,by rw[e,<-a];exact gg.n⟩
 . dsimp only at a c
   have i_len:=zbc length a;simp only[zbd,ib] at i_len;refine zg ?_
   repeat' ((first|refine zf ?_|(refine Rq.mk (eP 8 100001 ag rfl rfl lQ ab) ?_)|(refine zp ?_ ?_<;>intro h))<;>refine zg ?_)
   . (refine⟨⟨(m+1,y::(b++[(m:Int)])),(by rw[u4,<-a];rfl),aa⟩,zH,rfl,bH⟩)
   . generalize d : snap _ 20 _ = j
     obtain rfl:=d.symm.trans (vm (f:=ic) (fun _=>rfl) rfl)
     conv=>whnf
     have e:n=m:=aa;exact⟨aT (y::b),rfl,by rw[e,<-a];exact gg.r⟩
theorem Jb (n:Nat)(b:n≤100000):af 45 [i64 n] (fun c=>c = .ret (aT (a_ n))):=by
 refine(WA n b).oG ?_
 rintro _ ⟨v,rfl,a⟩
 exact⟨_,_,rfl,.inl (.inl a),rfl⟩
def k_ (l:List Int)(r:Int)(n:Nat):Prop:=∀(k:Nat) (h:k<l.length),k<n->r≠l[k]
theorem k_.nil {l r}:k_ l r 0:=fun _ _ h=>absurd h (ag)
theorem k_.step {l:List Int}{r:Int}{n:Nat}(h:k_ l r n)(b:n<l.length)(c:¬r=l[n]):k_ l r (n+1):=fun k d e=>by
 rcases zbI k n with a|a
 . exact h k _ a
 grind
theorem k_.not {l:List Int}{r:Int}{n:Nat}(h:k_ l r n)(c:(l.length:Int)≤n):r∉l:=fun a=>by
 obtain⟨k,b,rfl⟩:=zcv a;exact h k _ aa rfl
attribute [local irreducible] k_
theorem TJ (l:BL Int)(r:Int):af 47 [aT l.l,i64 r] (eS fun n=>(0≤n∧r∈l.l)∨(n = -1∧r∉l.l)):=by
 refine zw func47 ?_;have b:=l.h
 conv=>whnf
 refine DW.aO aC aD [0,1,4,7] [] 0 (fun n:{n:Nat // k_ l.l r n}=>[(8,i64 n.1)]) (fun _=>[]) [] (fun n=>l.l.length+1 - n.1) (⟨0,k_.nil⟩) ?_
 refine zl fun n=>?_
 refine zk ?_
 repeat' ((first|refine az.mk _ (bO (i:=n.1) aa) ?_|(refine zp ?_ ?_<;>intro h))<;>refine zk ?_)
 all_goals first|exact⟨_,rfl,.inr ⟨rfl,n.2.not h⟩⟩|exact⟨_,rfl,.inl ⟨aa,by rw[h];exact za9 _⟩⟩|exact zi ⟨n.1+1,k_.step n.2 aa h⟩
theorem QV (l:BL Int)(r:Int):af 12 [aT l.l,i64 r] (cc fun b=>b=true↔r∈l.l):=by
 refine zw func12 ?_;refine zg ?_
 repeat' ((first|(refine zp ?_ ?_<;>intro h)|(refine DC.pure rfl (TJ l r) ?_;rintro _ ⟨n,rfl,c⟩))<;>refine zg ?_)
 all_goals grind
theorem A4 (l:BL Int)(r:Int):af 12 [aT l.l,i64 r] (jV (r∈l.l)):=DP.dec (QV l r)
def db (a:List Int)(r:Int):Int:=if r<0 then r else a.getD r.toNat 0
def vK (a:List Int)(r:Int):Prop:=r<0∨r<a.length
def gG (i:Ins)(c:List Int):Ins:={ i with a:=db c i.a,b:=db c i.b,l:=⟨i.l.l.map (db c),by rw[zba];exact i.l.h⟩ }
theorem yf (a:List Int)(c:a.length<281474976710656)(r:Int)(h:vK a r):af 122 [i64 r,.bm [aT a]] (fun d=>d = .ret (i64 (db a r))):=by
 refine zw func122 ?_;have h:r<0∨r<a.length:=h;refine zg ?_
 repeat' ((refine zp ?_ ?_<;>intro h)<;>refine zg ?_)
 . rw[db,if_pos h]
 . rw[db,if_neg aa,getD_at]
attribute [local irreducible] db
def vJ (i:Ins)(c:List Int):Prop:=vK c i.a∧vK c i.b∧∀r∈i.l.l,vK c r
theorem gE {ρ:Nat->Nat}{s:Nat}{l:List Int}{es:List (List AV)}(h:es=l.map ic):an.arr s es=an.cp ρ (.arr s (l.map ic)):=by
 simp[an.cp];congr 1
theorem mb {n s:Nat}{l:List Int}:an.lt n (.arr s (l.map ic)):=by show(List.all _ _)=true;simp[AV.l1,AV.la,AV.l0]
theorem qL {H:aj}{n k i len sz m:Nat}{α:Type}{l:List α}{f:α->List AV}(c:H.get k=some (.arr m (l.map f)))(d:∀a,(f a).flatMap (cC H n)=[]):cC H (n+1) (.ay k i len sz)=[k]:=by
 have:(((l.map f).drop i).take len).flatMap (fun e=>e.flatMap (cC H n))=[]:=by
  rw[flatMap_eq_nil_iff]
  grind
 simp[cC,c,this]
theorem DF {H:aj}{n:Nat}{x y:AV}{a:List Nat}(c:cC H n x=a)(b:cC H n y=[]):(([]++[x,y]++[]):List AV).flatMap (cC H n)=a:=by
 grind
theorem yW {H:aj}{n:Nat}{x y:AV}{a:List Nat}(c:cC H n x=[])(b:cC H n y=a):(([]++[x]++[y]):List AV).flatMap (cC H n)=a:=by
 grind
theorem yY {H:aj}{n k s:Nat}{v:AV}{rs:List Nat}(b:H.get k=some (.arr s [[v]]))(a:cC H n v=rs):cC H (n+1) (.ptr k 0 0)=k::rs:=by
 simp[cC]
 simp_all
theorem DV.pX {P:Program}{E:Env}{nm:Nat}{g:FuncId}{a cap args args':List AV}{H:aj}{Q:AE->Prop}{R:AV->List (Nat×Option an)->List Nat->Prop}{rs:List Nat}(c:aM (snap H 20) (a++args++cap)=some args')(h:DP P E g args' Q)
 (f:(a++args++cap).flatMap (cC H 20)=rs)(e:∀b,Q b->∃v,b = .ret v∧v.flat=true∧R v [] rs):DV P E nm (.fn (.func g) a cap) args H R:=
 DV.flat c h fun b d=>by grind
abbrev qy (pl:List Int):an := .arr 1 (pl.map ic)
theorem Xd (i:Ins)(c:List Int)(d:c.length<281474976710656)(r:i.l.l.length≤40)(p:vJ i c):cM 88 [i.av,.ay 0 0 c.length 1] (.put 0 (some (qy c)) .nil) 1 (fun s H' _=>H'.get 0=some (qy c)∧∃v,s = .ret (.agg ((gG i c).cells.set 25 v))∧(gg v (aT (i.l.l.map (db c)))∨∃o,H'.get 1000=some o∧snap (.put 1000 (some o) .nil) 19 v=some (aT (i.l.l.map (db c))))):=by
 refine zd func88 ?_;refine zg ?_
 repeat' ((first|(refine DV.pX (rs:=[2,0]) (aJ rfl (aJ (qO (n:=19) rfl (aJ (fj (f:=ic) (l:=c) (n:=18) (fun _=>rfl) rfl rfl rfl) rfl)) rfl)) (yf c d i.a p.1) (yW rfl (yY rfl (qL (n:=18) (f:=ic) (l:=c) rfl (fun _=>rfl)))) ?_;rintro _ rfl;refine⟨_,rfl,rfl,?_⟩)|(refine DV.pX (rs:=[2,0]) (aJ rfl (aJ (qO (n:=19) rfl (aJ (fj (f:=ic) (l:=c) (n:=18) (fun _=>rfl) rfl rfl rfl) rfl)) rfl)) (yf c d i.b p.2.1) (yW rfl (yY rfl (qL (n:=18) (f:=ic) (l:=c) rfl (fun _=>rfl)))) ?_;rintro _ rfl;refine⟨_,rfl,rfl,?_⟩))<;>refine zg ?_)
 refine DW.aO aC aD [4,5,6,23,24] [7] 2000 (fun x:{x:Nat×List Int // x.2=(i.l.l.take x.1).map (db c)∧x.1≤i.l.l.length}=>[(25,i64 x.1.1)]) (fun x=>(7,.arr 29 [((gG i c).cells.set 25 (fu 1000 1 (x.1.2.map ic)))])::fq 1000 1 (x.1.2.map ic)) [(1000,.cell 7 25)] (fun x=>i.l.l.length+1 - x.1.1) (⟨(0,[]),rfl,zbq _⟩) ?_
 conv=>whnf
 refine⟨?_,fun x=>?_⟩
 . conv => whnf
   (repeat' first|exact True.intro|apply And.intro|rfl|exact gE aB|exact mb)
 rcases x with⟨⟨m,_|⟨y,k⟩⟩,g,j⟩
 . dsimp only at g j
   have i_len:=zbc length g;simp only[zbp,zba,zbA] at i_len;refine zk ?_
   repeat' ((first|refine zf ?_|refine az.mk _ (bO (l:=i.l.l) (i:=m) aa) ?_|(refine zp ?_ ?_<;>intro h)|(refine DV.pX (rs:=[2,0]) (aJ rfl (aJ (qO (n:=19) rfl (aJ (fj (f:=ic) (l:=c) (n:=18) (fun _=>rfl) rfl rfl rfl) rfl)) rfl)) (yf c d (i.l.l[m]'aa) (p.2.2 _ (za9 _))) (yW rfl (yY rfl (qL (n:=18) (f:=ic) (l:=c) rfl (fun _=>rfl)))) ?_;rintro _ rfl;refine⟨_,rfl,rfl,?_⟩))<;>refine zk ?_)
   . (refine⟨⟨(m+1,[db c (i.l.l[m]'aa)]),(by rw[qS aa,<-g];rfl),aa⟩,(by(conv=>whnf);(repeat' first|exact True.intro|apply And.intro|rfl|exact zbc (fun v=>an.arr 29 [((gG i c).cells.set 25 v)]) (dX aB aB ag aB)|exact gE aB|exact mb|exact c_ (f:=ic) (fun _=>by rfl)|(refine cw ?_ ?_ ?_<;>(try dsimp only)<;>omega))),rfl,bH⟩)
   . have e : i.l.l = [] := zbh aa
     exact⟨rfl,.ai,rfl,.inl (by rw[e];exact gg.n)⟩
 . dsimp only at g j
   have i_len:=zbc length g;simp only[zbd,zba,zbA] at i_len;refine zk ?_
   repeat' ((first|refine zf ?_|(refine Rq.mk (eP 8 2000 ag rfl rfl lQ ab) ?_)|refine az.mk _ (bO (l:=i.l.l) (i:=m) aa) ?_|(refine zp ?_ ?_<;>intro h)|(refine DV.pX (rs:=[2,0]) (aJ rfl (aJ (qO (n:=19) rfl (aJ (fj (f:=ic) (l:=c) (n:=18) (fun _=>rfl) rfl rfl rfl) rfl)) rfl)) (yf c d (i.l.l[m]'aa) (p.2.2 _ (za9 _))) (yW rfl (yY rfl (qL (n:=18) (f:=ic) (l:=c) rfl (fun _=>rfl)))) ?_;rintro _ rfl;refine⟨_,rfl,rfl,?_⟩))<;>refine zk ?_)
   . (refine⟨⟨(m+1,y::(k++[db c (i.l.l[m]'aa)])),(by rw[qS aa,<-g];rfl),aa⟩,(by(conv=>whnf);(repeat' first|exact True.intro|apply And.intro|rfl|exact zbc (fun v=>an.arr 29 [((gG i c).cells.set 25 v)]) (dX aB aB ag aB)|exact gE aB|exact mb|exact e_ aB (gM (f:=ic) (fun _=>by rfl) aB ag)|exact c_ (f:=ic) (fun _=>by rfl)|(refine cw ?_ ?_ ?_<;>(try dsimp only)<;>omega))),rfl,bH⟩)
   . exact⟨rfl,_,rfl,.inr ⟨_,rfl,(gW (f:=ic) (n:=18) (fun _=>rfl) rfl).trans (by have e:y::k=i.l.l.map (db c):=(by rw[g,zbj aa]);rw[<-e];rfl)⟩⟩
theorem Xc (i:Ins)(a:List Int)(c:a.length<281474976710656)(b:i.l.l.length≤40)(k:vJ i a):cM 88 [i.av,.ay 0 0 a.length 1] (.put 0 (some (qy a)) .nil) 1 (fun e H' _=>e = .ret (gG i a).av∧H'.get 0=some (qy a)):=by
 obtain⟨e,H',j,h,f,v,rfl,d⟩:=(Xd i a c b k).one;rcases d with d|⟨o,m,g⟩
 . refine h.oG ?_
   rintro _ _ _ ⟨rfl,rfl,rfl⟩
   exact⟨_,_,rfl,.inl (.inr ⟨_,_,rfl,rfl,EH (i:=gG i a) d⟩),rfl,f⟩
 . refine h.SG ?_
   rintro _ _ _ ⟨rfl,rfl,rfl⟩
   exact⟨1000,o,_,(gG i a).av,rfl,m,.inr (lM (n:=19) (aJ rfl (aJ rfl (aJ rfl (aJ rfl (aJ rfl (aJ rfl (aJ rfl (aJ rfl (aJ rfl (aJ rfl (aJ rfl (aJ rfl (aJ rfl (aJ rfl (aJ rfl (aJ rfl (aJ rfl (aJ rfl (aJ rfl (aJ rfl (aJ rfl (aJ rfl (aJ rfl (aJ rfl (aJ rfl (aJ g rfl))))))))))))))))))))))))))),rfl,f⟩
theorem JG {n:Nat}(i:Ins)(a:List Int)(e:a.length=n)(c:a.length<281474976710656)(b:i.l.l.length≤40)(f:vJ i a):cM 88 [i.av,.ay 0 0 n 1] (.put 0 (some (qy a)) .nil) 1 (fun d H' _=>d = .ret (gG i a).av∧H'.get 0=some (qy a)):=by
 subst e;exact Xc i _ c b f
theorem ye {a:List Int}:(qy a).dT:=by show(List.all _ _)=true;simp[hU,l9,nf]
theorem H3 (i:Ins):AE.still (.ret i.av):=ZG rfl
end Go.Ago
end
