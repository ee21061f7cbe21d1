/-
  Part B35: lemmas, each with its own conditions.
-/
import Derived.Test.YthaolifcglpkdaaGreatDoorB34
set_option maxRecDepth 100000
set_option maxHeartbeats 0
set_option linter.all false
section
namespace Go.Ago
open Go.Proofs List Nat Tryz
attribute [local irreducible] bA bw aV bp bG wr aZ bF comp DC DP DW DV
attribute [local irreducible] du ct aL cE dE dm dR dL bU
theorem xh {l:List Int}{n:Nat}(h:n<l.length):l.getD n 0=l[n]:=by grind
theorem Lo (zs:List Int):(iK zs).Pairwise (·≤·):=by
 refine Pairwise.imp (ag) (pairwise_mergeSort (fun a b c e d=>by grind) (fun a b=>by grind) _)
theorem F9 {zs:List Int}(h:zs.Pairwise (·≤·)):(Lib.compact zs).Pairwise (·<·):=by
 have k:∀(i j:Nat) (g:i<zs.length) (n:j<zs.length),i≤j->zs[i]≤zs[j]:=fun i j g n r=>by
  rcases zbI i j with m|m
  . exact pairwise_iff_getElem.1 h i j g n m
  . obtain rfl : i = j := aa
    exact Int.le_refl _
 have l:∀i,i<zs.length->zs.toArray[i]! = zs.getD i 0:=fun i g=>by rw[zcG _ i (by simpa using g)];simp[getD,g]
 unfold Lib.compact Lib.compactUpTo;refine pairwise_map.2 ?_;refine Pairwise.imp_of_mem (R:=fun a b:Nat=>a<b) ?_ (Pairwise.filter _ pairwise_lt_range)
 intro a b q s p;obtain⟨d,_⟩:=zbY.1 q;obtain⟨c,e⟩:=zbY.1 s;have d:=zcf.1 d;have c:=zcf.1 c;simp only[Lib.keeps,zbz] at e;rw[l _ d,l _ c];rw[l _ c,l _ aa] at e;have m:=k a (b - 1) d aa aa;have o:=k (b - 1) b aa c aa;rw[<-xh d,<-xh (by omega:b - 1<zs.length)] at m
 rw[<-xh c,<-xh (by omega:b - 1<zs.length)] at o
 rcases e with e|e
 . omega
 . omega
def dw (p:Int)(l:List Ins)(n:Nat):List Int:=((l.take n).filter fun i=>decide (i.op=16∧i.p=p)).map (·.n)
theorem Hu {p l}:dw p l 0=[]:=rfl
theorem BU {p:Int}{l:List Ins}{n:Nat}(h:n<l.length)(b:l[n].op=16)(a:l[n].p=p):dw p l (n+1)=dw p l n++[l[n].n]:=by
 unfold dw;rw[zbi h]
 grind
theorem SX {p:Int}{l:List Ins}{n:Nat}(h:n<l.length)(a:¬(l[n].op=16∧l[n].p=p)):dw p l (n+1)=dw p l n:=by
 unfold dw;rw[zbi h,zb5]
 simp_all
theorem xi {p:Int}{l:List Ins}{n:Nat}:(dw p l n).length≤n:=by
 unfold dw
 grind
theorem VU {p:Int}{l:List Ins}{x:Int}:x∈dw p l l.length↔∃i∈l,i.op=16∧i.p=p∧x=i.n:=by
 unfold dw
 grind
def dG (bs:List Bd)(p:Int)(m:Nat):List Int:=(bs.take m).flatMap fun b=>dw p b.ins.l b.ins.l.length
theorem Rm {bs p}:dG bs p 0=[]:=rfl
theorem Bg {bs:List Bd}{p:Int}{m:Nat}(h:m<bs.length):dG bs p (m+1)=dG bs p m++dw p bs[m].ins.l bs[m].ins.l.length:=by
 unfold dG;rw[zbi h,flatMap_append];simp
theorem Bf {p:Int}:∀{bs:List Bd} {m:Nat},(dG bs p m).length+((bs.drop m).map fun b=>b.ins.l.length).sum≤bK bs
 | [],m=>by simp[dG]
 | b::bs,0=>by simp[dG,bK]
 | b :: bs, m + 1 => by
   have c:=@Bf p bs m;have d:=@xi p b.ins.l b.ins.l.length;have e:dG (b::bs) p (m+1)=dw p b.ins.l b.ins.l.length++dG bs p m:=by rfl
   rw[e];simp[zbk,drop_succ_cons,bK,zcq,sum_cons] at c ⊢;omega
theorem Bi {p:Int}{bs:List Bd}{m:Nat}(h:m<bs.length):(dG bs p m).length+bs[m].ins.l.length≤bK bs:=by
 have a:=@Bf p bs m;rw[zcr h,zcq,sum_cons] at *;omega
theorem Gy {p:Int}{bs:List Bd}{m:Nat}:(dG bs p m).length≤bK bs:=by have:=@Bf p bs m;omega
def eh (c:Cd)(p:Int)(l:List Int)(e:Int):Prop:=
 (bU c≠0∧e=bU c∧l=[])∨(bU c=0∧¬(0≤p∧p<c.b.l.length)∧e=1∧l=[])∨(bU c=0∧(0≤p∧p<c.b.l.length)∧e=0∧l.length≤bK c.b.l∧(∀x,x∈l↔x∈dG c.b.l p c.b.l.length)∧l.Pairwise (·<·))
attribute [local irreducible] dw dG bK
theorem o3 {H:aj}{n:Nat}{x y b a:AV}(d:snap H n x=some b)(c:snap H n y=some a):snap H (n+1) (.ao [x,y])=some (.ao [b,a]):=by simp[snap,aM,d,c]
theorem Ze {H:aj}{n:Nat}{l r:List Int}{k:Nat}(d:k=l.length):aM (aM (snap H (n+1))) ((((l++r).map ic).drop 0).take k)=some (l.map ic):=by
 subst d;have:(((l++r).map ic).drop 0).take l.length=l.map ic:=ag;rw[this];exact sn fun x c=>by obtain⟨a,_,rfl⟩:=zbG.1 c;rfl
theorem zai {l:List Int}{e:Int}(h:l≠[]):AE.ret (.ao [.ak 1 (l.map ic),i64 e])=AE.ret (.ao [bif l.isEmpty then .ai else .ak 1 (l.map ic),i64 e]):=by
 grind
theorem QO {l:List Int}(h:l≠[]):Lib.compact (iK l)≠[]:=fun e=>by
 rcases l with _|⟨x,l⟩
 . grind
 have:x∈Lib.compact (iK (x::l)):=Cz.2 (CA.2 (ag))
 grind
theorem BX {a b:Int}{X:Prop}(_:a=b)(x:X):X:=x
theorem BZ {a b:Int}{X:Prop}(_:¬a=b)(x:X):X:=x
theorem BY {a b:Int}{X:Prop}(_:a≤b)(x:X):X:=x
theorem Lp {l:List Int}(h:l≠[]):iK l≠[]:=fun e=>h (zbh (by rw[<-o5,e];rfl))
theorem Rs (c:Cd)(p:Int)(hs:bK c.b.l≤100000):af 72 [c.av,i64 p] (fun ae=>∃l e,ae = .ret (.ao [bif l.isEmpty then .ai else .ak 1 (l.map ic),i64 e])∧eh c p l e):=by
 refine zw func72 ?_;have hl:=c.b.h;have hw:wr .i64 ((c.b.l.length:Int) - 1)=(c.b.l.length:Int) - 1:=aE aa aa;refine zg ?_
 repeat' ((first|(refine zp ?_ ?_<;>intro h)|(refine DC.pure rfl (iW c hs) ?_;rintro _ rfl)|(refine DC.pure rfl (qg p 0 (wr .i64 (((c.b.l.map Bd.cells).length:Int) - 1))) ?_;rintro _ (⟨rfl,hp⟩|⟨rfl,hp⟩)))<;>refine zg ?_)
 all_goals (try rw[zba,hw] at hp)
 all_goals first
  | exact⟨[],bU c,rfl,.inl ⟨h,rfl,rfl⟩⟩
  | exact⟨[],1,rfl,.inr (.inl ⟨aa,aa,rfl,rfl⟩)⟩
  | skip
 have u:bU c=0:=aa;refine DW.aO aC aD [1,4,5,25,26] [] 2000 (fun x:{x:Nat×List Int // x.2=dG c.b.l p x.1∧x.1≤c.b.l.length}=>[(27,i64 x.1.1),(7,fu 1000 1 (x.1.2.map ic))]) (fun x=>fq 1000 1 (x.1.2.map ic)) [(1000,.slot 7)] (fun x=>c.b.l.length+1 - x.1.1) (⟨(0,[]),Rm.symm,zbq _⟩) ?_
 refine zl fun x=>?_
 rcases x with⟨⟨m,_|⟨y,a⟩⟩,j,t⟩
 . dsimp only at j t
   have f:=Gy (p:=p) (bs:=c.b.l) (m:=m);rw[<-j] at f;simp only[zbd,zbp] at f;refine zk ?_
   repeat' ((first|refine az.mk _ (bO (i:=m) aa) ?_|(refine zp ?_ ?_<;>intro h)|(refine DC.pure rfl Ln ?_;rintro _ rfl)|(refine DC.pure rfl F7 ?_;rintro _ rfl))<;>refine zk ?_)
   rotate_left
   . exact⟨[],0,rfl,.inr (.inr ⟨u,aa,rfl,ag,fun x=>by rw[show c.b.l.length=m by omega,<-j],.nil⟩)⟩
   have d:m<c.b.l.length:=aa;refine DW.aO aC aD [1,4,5,9,25,26,27,28,29,30,31,32,33] [] 6000 (fun z:{z:Nat×List Int // z.2=([]:List Int)++dw p (c.b.l[m]'aa).ins.l z.1∧z.1≤(c.b.l[m]'aa).ins.l.length}=>[(34,i64 z.1.1),(7,fu 5000 1 (z.1.2.map ic))]) (fun z=>fq 5000 1 (z.1.2.map ic)) [(5000,.slot 7)] (fun z=>(c.b.l[m]'aa).ins.l.length+1 - z.1.1) (⟨(0,([]:List Int)),by rw[Hu,zcX],zbq _⟩) ?_
   conv=>whnf
   refine⟨?_,fun z=>?_⟩
   . conv => whnf
     (exact EC)
   rcases z with⟨⟨n,_|⟨q,g⟩⟩,hz,o⟩
   . dsimp only at hz o
     have s:=@xi p (c.b.l[m]'aa).ins.l n;have v:=Bi (p:=p) (bs:=c.b.l) (m:=m) d;have i_len:=zbc length hz;rw[zbk] at i_len;simp only[zbd,zbp] at i_len;refine zk ?_
     repeat' ((first|refine zf ?_|refine az.mk _ (bO (i:=n) aa) ?_|(refine zp ?_ ?_<;>intro h))<;>refine zk ?_)
     all_goals first
      | (refine BX h ?_)<;>(refine⟨⟨(n+1,[((c.b.l[m]'aa).ins.l[n]'aa).n]),(by rw[BU aa bD bD,<-zch,<-hz];rfl),aa⟩,jC,rfl,bH⟩)
      | (refine BZ h ?_)<;>(refine⟨⟨(n+1,[]),ED,aa⟩,jC,rfl,bH⟩)
      | (refine BY h ?_)<;>(refine⟨⟨(m+1,[]),(by rw[Bg d,<-j,show(c.b.l[m]'aa).ins.l.length=n by omega,<-hz]),aa⟩,jC,rfl,bH⟩)
   . dsimp only at hz o
     have s:=@xi p (c.b.l[m]'aa).ins.l n;have v:=Bi (p:=p) (bs:=c.b.l) (m:=m) d;have i_len:=zbc length hz;rw[zbk] at i_len;simp only[zbd,zbp] at i_len;refine zk ?_
     repeat' ((first|refine zf ?_|(refine Rq.mk (eP 8 1000000 ag rfl rfl lQ ab) ?_)|refine az.mk _ (bO (i:=n) aa) ?_|(refine zp ?_ ?_<;>intro h))<;>refine zk ?_)
     all_goals first
      | (refine BX h ?_)<;>(refine⟨⟨(n+1,q::(g++[((c.b.l[m]'aa).ins.l[n]'aa).n])),(by rw[BU aa bD bD,<-zch,<-hz];rfl),aa⟩,jC,rfl,bH⟩)
      | (refine BZ h ?_)<;>(refine⟨⟨(n+1,q::g),ED,aa⟩,jC,rfl,bH⟩)
      | (refine BY h ?_)<;>(refine⟨⟨(m+1,q::g),(by rw[Bg d,<-j,show(c.b.l[m]'aa).ins.l.length=n by omega,<-hz]),aa⟩,jC,rfl,bH⟩)
 . dsimp only at j t
   have f:=Gy (p:=p) (bs:=c.b.l) (m:=m);rw[<-j] at f;simp only[zbd,zbp] at f;have w:(y::a).length<4611686018427387904:=by simp only[zbd];omega
   refine zk ?_
   repeat' ((first|refine az.mk _ (bO (i:=m) aa) ?_|(refine zp ?_ ?_<;>intro h)|(refine DC.ng (k:=1000) (Lq (n:=(a.map ic).length+1) (y::a) ag (cons_ne_nil _ _) w) rfl rfl rfl (iY (l:=y::a)) ?_;rintro _ H' _ ⟨rfl,h0⟩;refine⟨rfl,_,h0,iY,?_⟩)|(refine DC.BC (k:=1000) (F8 (n:=(a.map ic).length+1) (iK (y::a)) (by rw[o5];simp) (Lp (cons_ne_nil _ _)) (by rw[o5];exact w)) rfl rfl rfl iY ?_;rintro _ H' _ ⟨rfl,h0⟩;refine⟨_,_,_,rfl,_,h0,iY,?_⟩))<;>refine zk ?_)
   rotate_left
   . generalize hg : snap _ 20 _ = rr
     obtain rfl:=hg.symm.trans (o3 (n:=19) (oZ (n:=18) (r:=(Lib.compact (iK (y::a))).map ic) rfl ag (Ze ag)) rfl)
     conv=>whnf
     exact⟨Lib.compact (iK (y::a)),0,zai (QO (cons_ne_nil _ _)),.inr (.inr ⟨u,aa,rfl,by have:=@wE (iK (y::a));rw[o5] at this;simp only[zbd] at this;omega,fun x=>by rw[Cz,CA,show c.b.l.length=m by omega,<-j],F9 (Lo _)⟩)⟩
   have d:m<c.b.l.length:=aa;refine DW.aO aC aD [1,4,5,9,25,26,27,28,29,30,31,32,33] [1000] 6000 (fun z:{z:Nat×List Int // z.2=(y::a)++dw p (c.b.l[m]'aa).ins.l z.1∧z.1≤(c.b.l[m]'aa).ins.l.length}=>[(34,i64 z.1.1),(7,fu 5000 1 (z.1.2.map ic))]) (fun z=>fq 5000 1 (z.1.2.map ic)) [(5000,.slot 7)] (fun z=>(c.b.l[m]'aa).ins.l.length+1 - z.1.1) (⟨(0,(y::a)),by rw[Hu,zcX],zbq _⟩) ?_
   conv=>whnf
   refine⟨?_,fun z=>?_⟩
   . conv => whnf
     (exact EC)
   rcases z with⟨⟨n,_|⟨q,g⟩⟩,hz,o⟩
   . exact absurd hz ag
   . dsimp only at hz o
     have s:=@xi p (c.b.l[m]'aa).ins.l n;have v:=Bi (p:=p) (bs:=c.b.l) (m:=m) d;have i_len:=zbc length hz;rw[zbk] at i_len;simp only[zbd,zbp] at i_len;refine zk ?_
     repeat' ((first|refine zf ?_|(refine Rq.mk (eP 8 1000000 ag rfl rfl lQ ab) ?_)|refine az.mk _ (bO (i:=n) aa) ?_|(refine zp ?_ ?_<;>intro h))<;>refine zk ?_)
     all_goals first
      | (refine BX h ?_)<;>(refine⟨⟨(n+1,q::(g++[((c.b.l[m]'aa).ins.l[n]'aa).n])),(by rw[BU aa bD bD,<-zch,<-hz];rfl),aa⟩,jC,rfl,bH⟩)
      | (refine BZ h ?_)<;>(refine⟨⟨(n+1,q::g),ED,aa⟩,jC,rfl,bH⟩)
      | (refine BY h ?_)<;>(refine⟨⟨(m+1,q::g),(by rw[Bg d,<-j,show(c.b.l[m]'aa).ins.l.length=n by omega,<-hz]),aa⟩,jC,rfl,bH⟩)
attribute [local semireducible] DP in
theorem DP.Wi {g:FuncId}{args:List AV}{p:List Int->Int->Prop}(h:af g args (fun i=>∃l e,i = .ret (.ao [bif l.isEmpty then .ai else .ak 1 (l.map ic),i64 e])∧p l e)):af g args (fun i=>∃l e,i = .ret (.ao [aT l,i64 e])∧p l e):=by
 obtain⟨_,h,l,e,rfl,q⟩:=h;cases l with
 | nil =>
   refine⟨.ret _,⟨h.1,fun c w k f j r=>(h.2 c w k f j r).mono ?_⟩,[],e,rfl,q⟩
   rintro y D ⟨B,_,s,t,u,o,rfl⟩
   refine⟨B,_,s,t,u,?_,rfl⟩;cases y with
   | returned v =>
     cases o with
     | @ao _ _ _ k C n =>
       match k,C with
       | [F, E], _ =>
         have f:=n 0 _ _ rfl rfl;have j:=n 1 _ _ rfl rfl;cases f;have:=aP.cons (Rel.fh 1) (aP.cons j aP.nil);exact Rel.ao this.1 this.2
   | _=>exact o.elim
 | cons x l=>exact⟨_,h,x::l,e,rfl,q⟩
theorem Rr (c:Cd)(p:Int)(d:bK c.b.l≤100000):af 72 [c.av,i64 p] (fun a=>∃l e,a = .ret (.ao [aT l,i64 e])∧eh c p l e):=DP.Wi (Rs c p d)
theorem eh.len {c:Cd}{p:Int}{l:List Int}{e:Int}(h:eh c p l e)(a:bK c.b.l≤100000):l.length≤100000:=by
 rcases h with⟨_,_,rfl⟩|⟨_,_,_,rfl⟩|⟨_,_,_,h,_⟩<;>grind
theorem SY (c:Cd)(p:Int)(d:bK c.b.l≤100000)(j:0≤p∧p<c.b.l.length):af 33 [c.av,i64 p] (fun i=>∃g:Gr,i = .ret g.av∧g.ins=(c.b.l[p.toNat]'aa).ins∧g.ah=(c.b.l[p.toNat]'aa).ah∧∃e,eh c p g.entries.l e):=by
 refine zw func33 ?_;have k:=c.b.h;refine zg ?_
 repeat' ((refine DC.pure rfl (Rr c p d) ?_;rintro _ ⟨l,e,rfl,a⟩)<;>refine zg ?_)
 all_goals exact⟨⟨(c.b.l[p.toNat]'aa).ins,_,⟨l,by have:=a.len d;omega⟩⟩,rfl,rfl,rfl,e,a⟩
end Go.Ago
end
