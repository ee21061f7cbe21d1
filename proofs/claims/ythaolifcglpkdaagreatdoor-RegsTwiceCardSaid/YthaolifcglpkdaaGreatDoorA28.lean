/-
  Part A28: lemmas, each with its own conditions.
-/
import Derived.Test.YthaolifcglpkdaaGreatDoorA27
set_option maxRecDepth 100000
set_option maxHeartbeats 0
set_option linter.all false
section
namespace Go.Ago
open Go.Proofs List Nat Tryz
attribute [local irreducible] bN bM aZ bK b_ wr bp bL comp DC DP DW DV
attribute [local irreducible] dJ ct aL cH dP dI ec dX cB
theorem w9 {l:List Int}{n:Nat}(h:n<l.length):l.getD n 0=l[n]:=by grind
theorem K6 (zs:List Int):(iM zs).Pairwise (·≤·):=by
 refine Pairwise.imp (ag) (pairwise_mergeSort (fun a b c e d=>by grind) (fun a b=>by grind) _)
theorem FU {zs:List Int}(h:zs.Pairwise (·≤·)):(Lib.compact zs).Pairwise (·<·):=by
 have k:∀(i j:Nat) (g:i<zs.length) (n:j<zs.length),i≤j->zs[i]≤zs[j]:=fun i j g n r=>by
  rcases Nat.lt_or_ge i j with m|m
  . exact pairwise_iff_getElem.1 h i j g n m
  . obtain rfl : i = j := aa
    exact Int.le_refl _
 have l:∀i,i<zs.length->zs.toArray[i]! = zs.getD i 0:=fun i g=>by rw[getElem!_pos _ i (by simpa using g)];simp[getD,g]
 unfold Lib.compact Lib.compactUpTo;refine pairwise_map.2 ?_;refine Pairwise.imp_of_mem (R:=fun a b:Nat=>a<b) ?_ (Pairwise.filter _ pairwise_lt_range)
 intro a b q s p;obtain⟨d,_⟩:=mem_filter.1 q;obtain⟨c,e⟩:=mem_filter.1 s;have d:=mem_range.1 d;have c:=mem_range.1 c;simp only[Lib.keeps,decide_eq_true_eq] at e;rw[l _ d,l _ c];rw[l _ c,l _ aa] at e;have m:=k a (b - 1) d aa aa;have o:=k (b - 1) b aa c aa;rw[<-w9 d,<-w9 (by omega:b - 1<zs.length)] at m
 rw[<-w9 c,<-w9 (by omega:b - 1<zs.length)] at o
 rcases e with e|e
 . omega
 . omega
def dM (p:Int)(l:List Ins)(n:Nat):List Int:=((l.take n).filter fun i=>decide (i.op=16∧i.p=p)).map (·.n)
theorem Hc {p l}:dM p l 0=[]:=rfl
theorem BH {p:Int}{l:List Ins}{n:Nat}(h:n<l.length)(b:l[n].op=16)(a:l[n].p=p):dM p l (n+1)=dM p l n++[l[n].n]:=by
 unfold dM;rw[take_succ_eq_append_getElem h]
 grind
theorem Sp {p:Int}{l:List Ins}{n:Nat}(h:n<l.length)(a:¬(l[n].op=16∧l[n].p=p)):dM p l (n+1)=dM p l n:=by
 unfold dM;rw[take_succ_eq_append_getElem h,filter_append]
 simp_all
theorem w_ {p:Int}{l:List Ins}{n:Nat}:(dM p l n).length≤n:=by
 unfold dM
 grind
theorem Vk {p:Int}{l:List Ins}{x:Int}:x∈dM p l l.length↔∃i∈l,i.op=16∧i.p=p∧x=i.n:=by
 unfold dM
 grind
def dR (bs:List Bd)(p:Int)(m:Nat):List Int:=(bs.take m).flatMap fun b=>dM p b.ins.l b.ins.l.length
theorem QR {bs p}:dR bs p 0=[]:=rfl
theorem A5 {bs:List Bd}{p:Int}{m:Nat}(h:m<bs.length):dR bs p (m+1)=dR bs p m++dM p bs[m].ins.l bs[m].ins.l.length:=by
 unfold dR;rw[take_succ_eq_append_getElem h,flatMap_append];simp
theorem A4 {p:Int}:∀{bs:List Bd} {m:Nat},(dR bs p m).length+((bs.drop m).map fun b=>b.ins.l.length).sum≤bV bs
 | [],m=>by simp[dR]
 | b::bs,0=>by simp[dR,bV]
 | b :: bs, m + 1 => by
   have c:=@A4 p bs m;have d:=@w_ p b.ins.l b.ins.l.length;have e:dR (b::bs) p (m+1)=dM p b.ins.l b.ins.l.length++dR bs p m:=by rfl
   rw[e];simp[length_append,drop_succ_cons,bV,map_cons,sum_cons] at c ⊢;omega
theorem A7 {p:Int}{bs:List Bd}{m:Nat}(h:m<bs.length):(dR bs p m).length+bs[m].ins.l.length≤bV bs:=by
 have a:=@A4 p bs m;rw[drop_eq_getElem_cons h,map_cons,sum_cons] at *;omega
theorem Ge {p:Int}{bs:List Bd}{m:Nat}:(dR bs p m).length≤bV bs:=by have:=@A4 p bs m;omega
def eA (c:Cd)(p:Int)(l:List Int)(e:Int):Prop:=
 (cB c≠0∧e=cB c∧l=[])∨(cB c=0∧¬(0≤p∧p<c.b.l.length)∧e=1∧l=[])∨(cB c=0∧(0≤p∧p<c.b.l.length)∧e=0∧l.length≤bV c.b.l∧(∀x,x∈l↔x∈dR c.b.l p c.b.l.length)∧l.Pairwise (·<·))
attribute [local irreducible] dM dR bV
theorem qT {H:ai}{n:Nat}{x y b a:AV}(d:snap H n x=some b)(c:snap H n y=some a):snap H (n+1) (.ao [x,y])=some (.ao [b,a]):=by simp[snap,aM,d,c]
theorem YI {H:ai}{n:Nat}{l r:List Int}{k:Nat}(d:k=l.length):aM (aM (snap H (n+1))) ((((l++r).map ic).drop 0).take k)=some (l.map ic):=by
 subst d;have:(((l++r).map ic).drop 0).take l.length=l.map ic:=ag;rw[this];exact sn fun x c=>by obtain⟨a,_,rfl⟩:=mem_map.1 c;rfl
theorem ZI {l:List Int}{e:Int}(h:l≠[]):AE.ret (.ao [.ak 1 (l.map ic),i64 e])=AE.ret (.ao [bif l.isEmpty then .ah else .ak 1 (l.map ic),i64 e]):=by
 grind
theorem Qk {l:List Int}(h:l≠[]):Lib.compact (iM l)≠[]:=fun e=>by
 rcases l with _|⟨x,l⟩
 . grind
 have:x∈Lib.compact (iM (x::l)):=Cj.2 (Cl.2 (ag))
 grind
theorem BM {a b:Int}{X:Prop}(_:a=b)(x:X):X:=x
theorem BO {a b:Int}{X:Prop}(_:¬a=b)(x:X):X:=x
theorem BN {a b:Int}{X:Prop}(_:a≤b)(x:X):X:=x
theorem K7 {l:List Int}(h:l≠[]):iM l≠[]:=fun e=>h (eq_nil_of_length_eq_zero (by rw[<-o4,e];rfl))
theorem QY (c:Cd)(p:Int)(hs:bV c.b.l≤100000):af 72 [c.av,i64 p] (fun ae=>∃l e,ae = .ret (.ao [bif l.isEmpty then .ah else .ak 1 (l.map ic),i64 e])∧eA c p l e):=by
 refine zw func72 ?_;have hl:=c.b.h;have hw:wr .i64 ((c.b.l.length:Int) - 1)=(c.b.l.length:Int) - 1:=aF aa aa;refine zg ?_
 repeat' ((first|(refine zp ?_ ?_<;>intro h)|(refine DC.pure rfl (pO c hs) ?_;rintro _ rfl)|(refine DC.pure rfl (qj p 0 (wr .i64 (((c.b.l.map Bd.cells).length:Int) - 1))) ?_;rintro _ (⟨rfl,hp⟩|⟨rfl,hp⟩)))<;>refine zg ?_)
 all_goals (try rw[length_map,hw] at hp)
 all_goals first
  | exact⟨[],cB c,rfl,.inl ⟨h,rfl,rfl⟩⟩
  | exact⟨[],1,rfl,.inr (.inl ⟨aa,aa,rfl,rfl⟩)⟩
  | skip
 have u:cB c=0:=aa;refine DW.aO aC aD [1,4,5,25,26] [] 2000 (fun x:{x:Nat×List Int // x.2=dR c.b.l p x.1∧x.1≤c.b.l.length}=>[(27,i64 x.1.1),(7,fc 1000 1 (x.1.2.map ic))]) (fun x=>e_ 1000 1 (x.1.2.map ic)) [(1000,.slot 7)] (fun x=>c.b.l.length+1 - x.1.1) (⟨(0,[]),QR.symm,zero_le _⟩) ?_
 refine zl fun x=>?_
 rcases x with⟨⟨m,_|⟨y,a⟩⟩,j,t⟩
 . dsimp only at j t
   have f:=Ge (p:=p) (bs:=c.b.l) (m:=m);rw[<-j] at f;simp only[length_cons,length_nil] at f;refine zk ?_
   repeat' ((first|refine ay.mk _ (bI (i:=m) aa) ?_|(refine zp ?_ ?_<;>intro h)|(refine DC.pure rfl K5 ?_;rintro _ rfl)|(refine DC.pure rfl FQ ?_;rintro _ rfl))<;>refine zk ?_)
   rotate_left
   . exact⟨[],0,rfl,.inr (.inr ⟨u,aa,rfl,ag,fun x=>by rw[show c.b.l.length=m by omega,<-j],.nil⟩)⟩
   have d:m<c.b.l.length:=aa;refine DW.aO aC aD [1,4,5,9,25,26,27,28,29,30,31,32,33] [] 6000 (fun z:{z:Nat×List Int // z.2=([]:List Int)++dM p (c.b.l[m]'aa).ins.l z.1∧z.1≤(c.b.l[m]'aa).ins.l.length}=>[(34,i64 z.1.1),(7,fc 5000 1 (z.1.2.map ic))]) (fun z=>e_ 5000 1 (z.1.2.map ic)) [(5000,.slot 7)] (fun z=>(c.b.l[m]'aa).ins.l.length+1 - z.1.1) (⟨(0,([]:List Int)),by rw[Hc,append_nil],zero_le _⟩) ?_
   conv=>whnf
   refine⟨?_,fun z=>?_⟩
   . conv => whnf
     (exact Ej)
   rcases z with⟨⟨n,_|⟨q,g⟩⟩,hz,o⟩
   . dsimp only at hz o
     have s:=@w_ p (c.b.l[m]'aa).ins.l n;have v:=A7 (p:=p) (bs:=c.b.l) (m:=m) d;have i_len:=congrArg length hz;rw[length_append] at i_len;simp only[length_cons,length_nil] at i_len;refine zk ?_
     repeat' ((first|refine zf ?_|refine ay.mk _ (bI (i:=n) aa) ?_|(refine zp ?_ ?_<;>intro h))<;>refine zk ?_)
     all_goals first
      | (refine BM h ?_)<;>(refine⟨⟨(n+1,[((c.b.l[m]'aa).ins.l[n]'aa).n]),(by rw[BH aa bA bA,<-append_assoc,<-hz];rfl),aa⟩,jz,rfl,bG⟩)
      | (refine BO h ?_)<;>(refine⟨⟨(n+1,[]),El,aa⟩,jz,rfl,bG⟩)
      | (refine BN h ?_)<;>(refine⟨⟨(m+1,[]),(by rw[A5 d,<-j,show(c.b.l[m]'aa).ins.l.length=n by omega,<-hz]),aa⟩,jz,rfl,bG⟩)
   . dsimp only at hz o
     have s:=@w_ p (c.b.l[m]'aa).ins.l n;have v:=A7 (p:=p) (bs:=c.b.l) (m:=m) d;have i_len:=congrArg length hz;rw[length_append] at i_len;simp only[length_cons,length_nil] at i_len;refine zk ?_
     repeat' ((first|refine zf ?_|(refine Rq.mk (di 8 1000000 ag rfl rfl mF ab) ?_)|refine ay.mk _ (bI (i:=n) aa) ?_|(refine zp ?_ ?_<;>intro h))<;>refine zk ?_)
     all_goals first
      | (refine BM h ?_)<;>(refine⟨⟨(n+1,q::(g++[((c.b.l[m]'aa).ins.l[n]'aa).n])),(by rw[BH aa bA bA,<-append_assoc,<-hz];rfl),aa⟩,jz,rfl,bG⟩)
      | (refine BO h ?_)<;>(refine⟨⟨(n+1,q::g),El,aa⟩,jz,rfl,bG⟩)
      | (refine BN h ?_)<;>(refine⟨⟨(m+1,q::g),(by rw[A5 d,<-j,show(c.b.l[m]'aa).ins.l.length=n by omega,<-hz]),aa⟩,jz,rfl,bG⟩)
 . dsimp only at j t
   have f:=Ge (p:=p) (bs:=c.b.l) (m:=m);rw[<-j] at f;simp only[length_cons,length_nil] at f;have w:(y::a).length<4611686018427387904:=by simp only[length_cons];omega
   refine zk ?_
   repeat' ((first|refine ay.mk _ (bI (i:=m) aa) ?_|(refine zp ?_ ?_<;>intro h)|(refine DC.ng (k:=1000) (K8 (n:=(a.map ic).length+1) (y::a) ag (cons_ne_nil _ _) w) rfl rfl rfl (kI (l:=y::a)) ?_;rintro _ H' _ ⟨rfl,h0⟩;refine⟨rfl,_,h0,kI,?_⟩)|(refine DC.Bn (k:=1000) (FT (n:=(a.map ic).length+1) (iM (y::a)) (by rw[o4];simp) (K7 (cons_ne_nil _ _)) (by rw[o4];exact w)) rfl rfl rfl kI ?_;rintro _ H' _ ⟨rfl,h0⟩;refine⟨_,_,_,rfl,_,h0,kI,?_⟩))<;>refine zk ?_)
   rotate_left
   . generalize hg : snap _ 20 _ = rr
     obtain rfl:=hg.symm.trans (qT (n:=19) (qS (n:=18) (r:=(Lib.compact (iM (y::a))).map ic) rfl ag (YI ag)) rfl)
     conv=>whnf
     exact⟨Lib.compact (iM (y::a)),0,ZI (Qk (cons_ne_nil _ _)),.inr (.inr ⟨u,aa,rfl,by have:=@wz (iM (y::a));rw[o4] at this;simp only[length_cons] at this;omega,fun x=>by rw[Cj,Cl,show c.b.l.length=m by omega,<-j],FU (K6 _)⟩)⟩
   have d:m<c.b.l.length:=aa;refine DW.aO aC aD [1,4,5,9,25,26,27,28,29,30,31,32,33] [1000] 6000 (fun z:{z:Nat×List Int // z.2=(y::a)++dM p (c.b.l[m]'aa).ins.l z.1∧z.1≤(c.b.l[m]'aa).ins.l.length}=>[(34,i64 z.1.1),(7,fc 5000 1 (z.1.2.map ic))]) (fun z=>e_ 5000 1 (z.1.2.map ic)) [(5000,.slot 7)] (fun z=>(c.b.l[m]'aa).ins.l.length+1 - z.1.1) (⟨(0,(y::a)),by rw[Hc,append_nil],zero_le _⟩) ?_
   conv=>whnf
   refine⟨?_,fun z=>?_⟩
   . conv => whnf
     (exact Ej)
   rcases z with⟨⟨n,_|⟨q,g⟩⟩,hz,o⟩
   . exact absurd hz ag
   . dsimp only at hz o
     have s:=@w_ p (c.b.l[m]'aa).ins.l n;have v:=A7 (p:=p) (bs:=c.b.l) (m:=m) d;have i_len:=congrArg length hz;rw[length_append] at i_len;simp only[length_cons,length_nil] at i_len;refine zk ?_
     repeat' ((first|refine zf ?_|(refine Rq.mk (di 8 1000000 ag rfl rfl mF ab) ?_)|refine ay.mk _ (bI (i:=n) aa) ?_|(refine zp ?_ ?_<;>intro h))<;>refine zk ?_)
     all_goals first
      | (refine BM h ?_)<;>(refine⟨⟨(n+1,q::(g++[((c.b.l[m]'aa).ins.l[n]'aa).n])),(by rw[BH aa bA bA,<-append_assoc,<-hz];rfl),aa⟩,jz,rfl,bG⟩)
      | (refine BO h ?_)<;>(refine⟨⟨(n+1,q::g),El,aa⟩,jz,rfl,bG⟩)
      | (refine BN h ?_)<;>(refine⟨⟨(m+1,q::g),(by rw[A5 d,<-j,show(c.b.l[m]'aa).ins.l.length=n by omega,<-hz]),aa⟩,jz,rfl,bG⟩)
attribute [local semireducible] DP in
theorem DP.VN {g:FuncId}{args:List AV}{p:List Int->Int->Prop}(h:af g args (fun i=>∃l e,i = .ret (.ao [bif l.isEmpty then .ah else .ak 1 (l.map ic),i64 e])∧p l e)):af g args (fun i=>∃l e,i = .ret (.ao [aU l,i64 e])∧p l e):=by
 obtain⟨_,h,l,e,rfl,q⟩:=h;cases l with
 | nil =>
   refine⟨.ret _,⟨h.1,fun c w k f j r=>(h.2 c w k f j r).mono ?_⟩,[],e,rfl,q⟩
   rintro y D ⟨B,_,s,t,u,o,rfl⟩
   refine⟨B,_,s,t,u,?_,rfl⟩;cases y with
   | returned v =>
     cases o with
     | @ao _ _ _ k C n =>
       match k,C with
       | [F, E], _ =>
         have f:=n 0 _ _ rfl rfl;have j:=n 1 _ _ rfl rfl;cases f;have:=aQ.cons (Rel.fk 1) (aQ.cons j aQ.nil);exact Rel.ao this.1 this.2
   | _=>exact o.elim
 | cons x l=>exact⟨_,h,x::l,e,rfl,q⟩
theorem QX (c:Cd)(p:Int)(d:bV c.b.l≤100000):af 72 [c.av,i64 p] (fun a=>∃l e,a = .ret (.ao [aU l,i64 e])∧eA c p l e):=DP.VN (QY c p d)
theorem eA.len {c:Cd}{p:Int}{l:List Int}{e:Int}(h:eA c p l e)(a:bV c.b.l≤100000):l.length≤100000:=by
 rcases h with⟨_,_,rfl⟩|⟨_,_,_,rfl⟩|⟨_,_,_,h,_⟩<;>grind
theorem Sq (c:Cd)(p:Int)(d:bV c.b.l≤100000)(j:0≤p∧p<c.b.l.length):af 33 [c.av,i64 p] (fun i=>∃g:Gr,i = .ret g.av∧g.ins=(c.b.l[p.toNat]'aa).ins∧g.aj=(c.b.l[p.toNat]'aa).aj∧∃e,eA c p g.entries.l e):=by
 refine zw func33 ?_;have k:=c.b.h;refine zg ?_
 repeat' ((refine DC.pure rfl (QX c p d) ?_;rintro _ ⟨l,e,rfl,a⟩)<;>refine zg ?_)
 all_goals exact⟨⟨(c.b.l[p.toNat]'aa).ins,_,⟨l,by have:=a.len d;omega⟩⟩,rfl,rfl,rfl,e,a⟩
end Go.Ago
end
namespace Go.Ago
open Go.Proofs List Nat Tryz
theorem RL:∀a:Int,1≤a->a≤38->hasB a 65=true->a=3∨a=5∨a=6∨a=7∨a=8∨a=9∨a=10∨a=11∨a=13∨a=15∨a=18∨a=22∨a=23∨a=29∨a=30∨a=31∨a=32∨a=33∨a=38:=by
 intro a d e h;obtain⟨k,rfl⟩:=Int.eq_ofNat_of_zero_le (by omega:0≤a)
 have c:k<39:=aa;have:∀k:Fin 39,hasB (k.1:Int) 65=true->k.1∈[3,5,6,7,8,9,10,11,13,15,18,22,23,29,30,31,32,33,38]:=ab;have:=this ⟨k,c⟩ h;simp only[mem_cons,not_mem_nil,or_false] at this;omega
theorem RM:∀a:Int,1≤a->a≤38->hasB a 66=true->a=7∨a=9∨a=10∨a=13∨a=23∨a=30∨a=31∨a=32∨a=33:=by
 intro a d e h;obtain⟨k,rfl⟩:=Int.eq_ofNat_of_zero_le (by omega:0≤a)
 have c:k<39:=aa;have:∀k:Fin 39,hasB (k.1:Int) 66=true->k.1∈[7,9,10,13,23,30,31,32,33]:=ab;have:=this ⟨k,c⟩ h;simp only[mem_cons,not_mem_nil,or_false] at this;omega
theorem RN:∀a:Int,1≤a->a≤38->hasB a 68=true->a=2∨a=3∨a=4∨a=6∨a=7∨a=8∨a=10∨a=11∨a=12∨a=13∨a=17∨a=22∨a=26∨a=28∨a=29∨a=32∨a=33∨a=34∨a=35∨a=36∨a=38:=by
 intro a d e h;obtain⟨k,rfl⟩:=Int.eq_ofNat_of_zero_le (by omega:0≤a)
 have c:k<39:=aa;have:∀k:Fin 39,hasB (k.1:Int) 68=true->k.1∈[2,3,4,6,7,8,10,11,12,13,17,22,26,28,29,32,33,34,35,36,38]:=ab;have:=this ⟨k,c⟩ h;simp only[mem_cons,not_mem_nil,or_false] at this;omega
abbrev zP (k:Kc)(r:Int):Prop:=r = -1∨aL k r
theorem Tk {k:Kc}{i:Ins}(c:ec i)(d:dX k i):zP k i.a:=by
 obtain⟨⟨e,f⟩,_,x,_,_⟩:=c;cases g:hasB i.op 65 with
 | false=>grind
 | true =>
   obtain⟨u,v,w,b,o,p,q,r,s,t,j,h,l,m,y,n⟩:=d;have:=RL _ e f g;unfold dP at *;unfold dI at *
   grind
theorem Tl {k:Kc}{i:Ins}(c:ec i)(d:dX k i):zP k i.b:=by
 obtain⟨⟨e,f⟩,_,_,x,_⟩:=c;cases g:hasB i.op 66 with
 | false=>grind
 | true =>
   obtain⟨u,v,w,a,o,p,q,r,s,t,j,h,l,m,y,n⟩:=d;have:=RM _ e f g;unfold dI at *
   grind
theorem Tm {k:Kc}{i:Ins}(b:ec i)(c:dX k i):zP k i.d:=by
 obtain⟨⟨e,f⟩,x,_,_,_⟩:=b;cases g:hasB i.op 68 with
 | false=>grind
 | true =>
   obtain⟨u,v,w,a,o,p,q,r,s,t,j,h,l,m,y,n⟩:=c;have:=RN _ e f g;unfold dP at *;unfold dI at *
   grind
structure InsV (n:Int)(m:Nat)(i:Ins):Prop where
 a:i.a = -1∨(0≤i.a∧i.a<n)
 b:i.b = -1∨(0≤i.b∧i.b<n)
 d:i.d = -1∨(0≤i.d∧i.d<n)
 l:∀r∈i.l.l,0≤r∧r<n
 t:∀x∈bT i,0≤x∧x≤(m:Int)
theorem kE {c:Cd}(h:rh c){q:Nat}(f:q<c.b.l.length):(0≤c.b.l[q].aj)∧∀i∈c.b.l[q].ins.l,InsV c.b.l[q].aj c.b.l[q].ins.l.length i:=by
 obtain⟨j,h⟩:=h;refine⟨(j.aj q f).1,fun i v=>?_⟩
 obtain⟨o,d⟩:=h q f i v;have g:fj (fu c j q f)=c.b.l[q].aj:=by simp[fj,fu]
 have k:∀r,aL (fu c j q f) r->0≤r∧r<c.b.l[q].aj:=fun r d=>by
  unfold aL at d;rw[g] at d;omega
 refine⟨(Tk o d).imp id (k _),(Tl o d).imp id (k _),(Tm o d).imp id (k _),fun r y=>k r (d.1 r y),fun x e=>?_⟩
 have m:∀n,cH (fu c j q f) (fu c j q f).proc n->0≤n∧n≤(c.b.l[q].ins.l.length:Int):=fun n t=>by
  unfold cH at t;obtain⟨L,D,u⟩:=t;refine⟨D,?_⟩
  simpa[fu] using u
 obtain⟨E,u,H,z,I,J,K,M,F,G,A,w,C,B,s,p⟩:=d;unfold dP at s;unfold dI at p;unfold bT at e;split at e
 . rename_i a
   simp only[mem_singleton] at e;subst e;rcases a with a|a
   . exact m _ ((s aa aa).1 a)
   . exact m _ ((s aa aa).2.1 a).2
 . split at e
   . rename_i a
     simp only[mem_singleton] at e;subst e;rcases a with a|a
     . exact m _ ((p aa aa).2.2.2.1 a).2
     . exact m _ ((p aa aa).2.2.2.2.1 a).2.2
   . cases e
theorem kD {c:Cd}(h:rh c){q:Nat}(x:q<c.b.l.length){i:Ins}(hi:i∈c.b.l[q].ins.l)(k:i.op=16):∃d:i.p.toNat<c.b.l.length,0≤i.p∧0≤i.n∧i.n≤(c.b.l[i.p.toNat].ins.l.length:Int):=by
 obtain⟨g,h⟩:=h;obtain⟨z,j⟩:=h q _ i hi;obtain⟨B,a,A,m,C,D,F,G,H,y,f,r,s,t,o,E⟩:=j;have:=(o aa aa).2.2.1 k;obtain⟨⟨v,_⟩,d⟩:=this;obtain⟨w,u,a⟩:=d;exact⟨w,v,u,a⟩
theorem oG {p:Int}{x:Int}:∀{bs:List Bd},x∈dR bs p bs.length↔∃b∈bs,∃i∈b.ins.l,i.op=16∧i.p=p∧x=i.n:=by
 unfold dR;simp[Vk]
structure fz (c:Cd)(ins most:Nat):Prop where
 nb:c.b.l.length≤70
 aj:∀b∈c.b.l,b.aj≤most
 h_:∀b∈c.b.l,∀i∈b.ins.l,i.l.l.length≤40
 sum:bV c.b.l≤ins
structure gz (g:Gr):Prop where
 aj:0≤g.aj∧g.aj≤64
 eU:g.ins.l.length≤1000∧g.entries.l.length≤1000
 ins:∀i∈g.ins.l,InsV g.aj g.ins.l.length i
 h_:∀i∈g.ins.l,i.l.l.length≤40
 fe:∀t∈g.entries.l,0≤t∧t≤(g.ins.l.length:Int)
theorem gz.ok {g:Gr}(h:gz g):cM g:=by
 refine⟨h.aj,h.eU,fun i f r c=>?_,fun i f=>?_,h.h_,fun i f t m=>(h.ins i f).t t m,h.fe⟩
 . have e := h.ins i f
   unfold aT at c;rcases mem_append.1 c with c|c
   . rcases mem_append.1 c with c | c
     . split at c
       . rename_i j
         simp only[mem_singleton] at c;subst c;exact e.a.resolve_left j.2
       . cases c
     . split at c
       . rename_i j
         simp only[mem_singleton] at c;subst c;exact e.b.resolve_left j.2
       . cases c
   . split at c
     . exact e.l r c
     . cases c
 . have e := h.ins i f
   have:=h.aj;unfold aH;split
   . rcases e.d with k|k<;>omega
   . omega
theorem mf:∀{bs:List Bd} {b:Bd},b∈bs->b.ins.l.length≤bV bs
 | x :: bs, b, h => by
   unfold bV;rw[map_cons,sum_cons];rcases mem_cons.1 h with rfl|h
   . omega
   have:=mf h;unfold bV at this;omega
theorem Ss {c:Cd}{p:Int}{g:Gr}{j f:Nat}(o:fz c j f)(K:f≤60)(hi:j≤1000)(u:0≤p∧p<c.b.l.length)(h:cB c=0)(n:g.ins=(c.b.l[p.toNat]'aa).ins)(x:g.aj=(c.b.l[p.toNat]'aa).aj)(m:∃e,eA c p g.entries.l e):gz g:=by
 have k:=PY c h;have v:p.toNat<c.b.l.length:=aa;obtain⟨B,A⟩:=kE k v;have d:=getElem_mem v;have z:=o.aj _ d;have y:=o.h_ _ d;have w:=mf d;have C:=o.sum;obtain⟨e,m⟩:=m;have D:g.entries.l.length≤1000:=by
  rcases m with⟨a,_⟩|⟨_,a,_⟩|⟨_,_,_,a,_⟩
  . exact absurd h a
  . exact absurd u a
  . omega
 refine⟨by rw[x];omega,by rw[n];omega,by rw[n,x];exact A,by rw[n];exact y,fun t E=>?_⟩
 rcases m with⟨a,_⟩|⟨_,a,_⟩|⟨_,_,_,_,a,_⟩
 . exact absurd h a
 . exact absurd u a
 . obtain ⟨b, F, i, s, H, J, rfl⟩ := oG.1 ((a t).1 E)
   obtain⟨q,r,rfl⟩:=getElem_of_mem F;obtain⟨L,_,I,G⟩:=kD k r s H;refine⟨I,?_⟩;rw[n];subst J;exact G
end Go.Ago
section
namespace Go.Ago
open Go.Proofs List Nat Tryz
attribute [local irreducible] bN bM aZ bK b_ wr bp bL comp DC DP DW DV
attribute [local irreducible] dJ ct aL cH dP dI ec dX cB dM dR bV bn bB eA
def dQ (c:Cd)(p:Int)(g:Gr):Prop:=∃a:p.toNat<c.b.l.length,g.ins=c.b.l[p.toNat].ins∧g.aj=c.b.l[p.toNat].aj∧∃e,eA c p g.entries.l e
theorem Zi (g:Gr):af 34 [g.av] (kQ (g_ g)):=DP.dec (Zj g)
theorem He (c:Cd)(p:Int)(d:bV c.b.l≤100000)(e:0≤p∧p<c.b.l.length):af 33 [c.av,i64 p] (fun f=>∃g:Gr,f = .ret g.av∧dQ c p g):=by
 refine(Sq c p d e).mono ?_
 rintro _ ⟨g,rfl,h,i,a⟩
 exact⟨g,rfl,aa,h,i,a⟩
theorem dQ.v {c:Cd}{p:Int}{g:Gr}{d a:Nat}(h:dQ c p g)(k:fz c d a)(i:a≤60)(hi:d≤1000)(j:0≤p∧p<c.b.l.length)(e:cB c=0):gz g:=by
 obtain⟨_,m,n,f⟩:=h;exact Ss k i hi j e m n f
abbrev db (l:List Int):List AV:=[aU l]
def eL (bs:List Bd)(n:Nat):Nat:=((bs.take n).map fun b=>b.ins.l.length).sum
theorem Lr {bs}:eL bs 0=0:=rfl
theorem DD {bs:List Bd}{n:Nat}(h:n<bs.length):eL bs (n+1)=eL bs n+bs[n].ins.l.length:=by
 unfold eL;rw[take_succ_eq_append_getElem h,map_append];simp
theorem Zp {bs:List Bd}:∀{n:Nat},eL bs n≤n * 281474976710656:=by
 intro n
 induction n with
 | zero=>simp[eL]
 | succ n c =>
   by_cases h:n<bs.length
   . rw[DD h];have:=(bs[n]).ins.h;omega
   . have : eL bs (n + 1) = eL bs n := by unfold eL; rw [take_of_length_le aa, take_of_length_le aa]
     omega
theorem Zn {bs:List Bd}:eL bs bs.length=bV bs:=by unfold eL;rw[take_length];with_unfolding_all rfl
attribute [local irreducible] eL
def ri (i:Ins):Prop:=40<i.l.l.length∨40<i.y.l.length∨40<i.f.l.length
def kB (l:List Ins)(n:Nat):Prop:=∀(k:Nat) (h:k<l.length),k<n->¬ri l[k]
theorem kB.nil {l}:kB l 0:=fun _ _ h=>absurd h (ag)
theorem kB.step {l:List Ins}{n:Nat}(h:kB l n)(b:n<l.length)(c:¬ri l[n]):kB l (n+1):=fun k d e=>by
 rcases Nat.lt_or_ge k n with a|a
 . exact h k _ a
 grind
theorem UZ (i:Ins):af 29 [i.av] (ca fun b=>b=true↔ri i):=by
 refine zw func29 ?_;have d:=i.l.h;have e:=i.y.h;have c:=i.f.h;refine zg ?_
 repeat' ((refine zp ?_ ?_<;>intro h)<;>refine zg ?_)
 all_goals exact⟨_,rfl,by simp only[ri,true_iff,false_iff,Bool.false_eq_true];omega⟩
theorem UY (i:Ins):af 29 [i.av] (kQ (ri i)):=DP.dec (UZ i)
theorem Ta (l:BL Ins):af 71 [np l.l,.fn (.func 29) [] []] (eX fun n=>n<0->kB l.l l.l.length):=by
 refine zw func71 ?_;have d:=l.h
 conv=>whnf
 refine DW.aO aC aD [0,1,4,7] [] 0 (fun n:{n:Nat // kB l.l n}=>[(8,i64 n.1)]) (fun _=>[]) [] (fun n=>l.l.length+1 - n.1) (⟨0,kB.nil⟩) ?_
 refine zl fun n=>?_
 refine zg ?_
 repeat' ((first|(refine zp ?_ ?_<;>intro h)|(refine DC.pure rfl (UY (l.l[n.1]'aa)) ?_;rintro _ (⟨rfl,a⟩|⟨rfl,a⟩)))<;>refine zg ?_)
 all_goals first|exact⟨_,rfl,fun e=>aa⟩|exact⟨_,rfl,fun _ k c _=>n.2 k c aa⟩|exact zi ⟨n.1+1,kB.step n.2 aa a⟩
theorem Sy (l:BL Ins):af 28 [np l.l,.fn (.func 29) [] []] (ca fun b=>b=false->kB l.l l.l.length):=by
 have k1:=Ta l;exact zw func28 W
theorem Zl (c:Cd)(g:c.b.l.length≤70):af 27 [c.av] (fun m=>m = .ret (i64 (bV c.b.l))):=by
 refine zw func27 ?_;have p:=c.b.h;have j:=@Lr c.b.l
 conv=>whnf
 refine DW.aO aC aD [1,2] [] 0 (fun n:{n:Nat // n≤c.b.l.length}=>[(4,i64 n.1),(3,i64 (eL c.b.l n.1))]) (fun _=>[]) [] (fun n=>c.b.l.length+1 - n.1) (⟨0,zero_le _⟩) ?_
 refine zl fun n=>?_
 have o:=n.2;have i:=@Zp c.b.l n.1;refine zg ?_
 repeat' ((refine zp ?_ ?_<;>intro h)<;>refine zg ?_)
 . have a : n.1 < c.b.l.length := aa
   have q:=DD a;have r:=(c.b.l[n.1]).ins.h;have f:wr .i64 ((eL c.b.l n.1:Int)+((c.b.l[n.1]).ins.l.length:Int))=(eL c.b.l (n.1+1):Int):=by rw[aF aa aa];omega
   refine⟨⟨n.1+1,a⟩,?_,rfl,bG⟩
   conv=>whnf
   repeat' first|exact True.intro|rfl|apply And.intro|(refine cw ?_ ?_ ?_<;>(try dsimp only)<;>omega)|exact congrArg (AV.int .i64) (by rw[length_map];exact f)
 . have e : n.1 = c.b.l.length := aa
   exact congrArg (fun k:Nat=>AE.ret (i64 (k:Int))) ((congrArg (eL c.b.l) e).trans Zn)
def lf (c:Cd)(d a:Int)(n:Nat):Prop:=∀(k:Nat) (h:k<c.b.l.length),k<n->c.b.l[k].aj≤a∧(bV c.b.l:Int)≤d∧kB c.b.l[k].ins.l c.b.l[k].ins.l.length
theorem lf.nil {c b a}:lf c b a 0:=fun _ _ h=>absurd h (ag)
theorem lf.step {c:Cd}{d a:Int}{n:Nat}(h:lf c d a n)(f:n<c.b.l.length)(g:c.b.l[n].aj≤a)(i:(bV c.b.l:Int)≤d)(j:kB c.b.l[n].ins.l c.b.l[n].ins.l.length):lf c d a (n+1):=fun k m o=>by
 rcases Nat.lt_or_ge k n with e|e
 . exact h k _ e
 grind
theorem Tj:bV []=0:=by with_unfolding_all rfl
theorem lf.ok {c:Cd}{e a:Nat}(f:c.b.l.length≤70)(h:lf c e a c.b.l.length):fz c e a:=by
 refine⟨f,fun b g=>?_,fun b g i o=>?_,?_⟩
 . obtain ⟨q, d, rfl⟩ := getElem_of_mem g
   exact(h q d d).1
 . obtain ⟨q, d, rfl⟩ := getElem_of_mem g
   obtain⟨k,n,rfl⟩:=getElem_of_mem o;have:=(h q d d).2.2 k n n;unfold ri at this;omega
 . rcases p : c.b.l with _ | ⟨b, r⟩
   . rw[Tj];simp
   . have m : 0 < c.b.l.length := by rw [p]; simp
     have:=(h 0 m m).2.1
     grind
theorem vg (c:Cd)(d a:Nat)(hi:d≤100000∧a≤100000):af 7 [c.av,i64 d,i64 a] (ca fun b=>b=true->fz c d a):=by
 refine zw func7 ?_;have o:=c.b.h;have m:=c.p.procs.h;refine zg ?_
 repeat' ((refine zp ?_ ?_<;>intro h)<;>refine zg ?_)
 all_goals first|exact⟨_,rfl,fun f=>absurd f ab⟩|skip
 have e:c.b.l.length≤70:=aa;refine DW.aO aC aD [1,2,3,6,21,22] [] 0 (fun n:{n:Nat // lf c d a n}=>[(23,i64 n.1)]) (fun _=>[]) [] (fun n=>c.b.l.length+1 - n.1) (⟨0,lf.nil⟩) ?_
 refine zl fun n=>?_
 refine zg ?_
 repeat' ((first|(refine zp ?_ ?_<;>intro h)|(refine DC.pure rfl (Zl c e) ?_;rintro _ rfl)|(refine DC.pure rfl (Sy (c.b.l[n.1]'aa).ins) ?_;rintro _ ⟨b,rfl,j⟩))<;>refine zg ?_)
 all_goals first
  | exact⟨_,rfl,fun _=>lf.ok e (fun k i _=>n.2 k i aa)⟩
  | exact⟨_,rfl,fun f=>absurd f ab⟩
  | exact zi ⟨n.1+1,lf.step n.2 aa aa aa (j bA)⟩
end Go.Ago
end
section
namespace Go.Ago
open Go.Proofs List Nat Tryz
attribute [local irreducible] bN bM aZ bK b_ wr bp bL comp DC DP DW DV
attribute [local irreducible] dJ ct aL cH dP dI ec dX cB dM dR bV bn bB eA
def fS (a:List Int)(r:Int):Int:=if r = -1 then -1 else a.getD r.toNat 0
def rj (a:List Int)(r:Int):Prop:=r = -1∨(0≤r∧r<a.length∧0≤a.getD r.toNat 0)
theorem getD_at {l:List Int}{n:Int}(h:n.toNat<l.length):l.getD n.toNat 0=l[n.toNat]:=by grind
def nK (i:Ins)(c:List Int):Ins:={ i with d:=fS c i.d,a:=fS c i.a,b:=fS c i.b,l:=⟨i.l.l.map (fS c),by rw[length_map];exact i.l.h⟩ }
theorem uX (a:BL Int)(r:Int)(h:rj a.l r):af 94 [i64 r,.bq [aU a.l],.bq [.bool true]] (fun f=>f = .ret (i64 (fS a.l r))):=by
 refine zw func94 ?_;have j:=a.h;have i:r = -1∨(0≤r∧r<a.l.length):=h.imp id fun h=>⟨h.1,h.2.1⟩
 have d:¬r = -1->∀b:r.toNat<a.l.length,¬a.l[r.toNat]<0:=fun e b g=>by
  rcases h with h|⟨_,_,h⟩
  . exact e h
  . rw[getD_at b] at h;omega
 refine zg ?_
 repeat' ((refine zp ?_ ?_<;>first|exact⟨⟩|intro h)<;>refine zg ?_)
 . rw[fS,if_pos h,h]
 . exact absurd bA (d bA _)
 . rw[fS,if_neg bA,getD_at]
theorem nR {H:ai}{n:Nat}{cs a:List AV}(h:aM (snap H n) cs=some a):snap H (n+1) (.agg cs)=some (.agg a):=by simp[snap,h]
theorem qW {α a:Type}{f:α->a}{l:List α}{n:Nat}(h:n<l.length):(l.take (n+1)).map f=(l.take n).map f++[f l[n]]:=by
 rw[take_succ_eq_append_getElem h,map_append];rfl
attribute [local irreducible] fS
def zU (i:Ins)(c:List Int):Prop:=rj c i.d∧rj c i.a∧rj c i.b∧∀r∈i.l.l,rj c r
theorem Xp (i:Ins)(c:BL Int)(s:i.l.l.length≤40)(j:zU i c.l):af 53 [i.av,aU c.l] (fun t=>∃v,t = .ret (.ao [.agg ((nK i c.l).cells.set 25 v),i64 0])∧fX v (aU (i.l.l.map (fS c.l)))):=by
 refine zw func53 ?_;have w:=c.h;refine zg ?_
 repeat' ((first|(refine DV.flat rfl (uX c i.d j.1) ?_;rintro _ rfl;refine⟨_,rfl,rfl,?_⟩)|(refine DV.flat rfl (uX c i.a j.2.1) ?_;rintro _ rfl;refine⟨_,rfl,rfl,?_⟩)|(refine DV.flat rfl (uX c i.b j.2.2.1) ?_;rintro _ rfl;refine⟨_,rfl,rfl,?_⟩))<;>refine zg ?_)
 refine DW.aO aC aD [2,4,5,6,7,28,29] [] 2000 (fun x:{x:Nat×List Int // x.2=(i.l.l.take x.1).map (fS c.l)∧x.1≤i.l.l.length}=>[(30,i64 x.1.1),(8,fc 1000 1 (x.1.2.map ic))]) (fun x=>e_ 1000 1 (x.1.2.map ic)) [(1000,.slot 8)] (fun x=>i.l.l.length+1 - x.1.1) (⟨(0,[]),rfl,zero_le _⟩) ?_
 refine zl fun x=>?_
 rcases x with⟨⟨m,_|⟨y,k⟩⟩,g,o⟩
 . dsimp only at g o
   have i_len:=congrArg length g;simp only[length_nil,length_map,length_take] at i_len;refine zk ?_
   repeat' ((first|refine zf ?_|refine ay.mk _ (bI (i:=m) aa) ?_|(refine zp ?_ ?_<;>intro h)|(refine DC.flat rfl (uX c (i.l.l[m]'aa) (j.2.2.2 _ (getElem_mem _))) ?_;rintro _ rfl;refine⟨rfl,?_⟩))<;>refine zk ?_)
   . (refine⟨⟨(m+1,[fS c.l (i.l.l[m]'aa)]),(by rw[qW aa,<-g];rfl),aa⟩,jz,rfl,bG⟩)
   . have e : i.l.l = [] := eq_nil_of_length_eq_zero aa
     exact⟨.ah,rfl,by rw[e];exact fX.n⟩
 . dsimp only at g o
   have i_len:=congrArg length g;simp only[length_cons,length_map,length_take] at i_len;refine zk ?_
   repeat' ((first|refine zf ?_|(refine Rq.mk (di 8 100000 ag rfl rfl mF ab) ?_)|refine ay.mk _ (bI (i:=m) aa) ?_|(refine zp ?_ ?_<;>intro h)|(refine DC.flat rfl (uX c (i.l.l[m]'aa) (j.2.2.2 _ (getElem_mem _))) ?_;rintro _ rfl;refine⟨rfl,?_⟩))<;>refine zk ?_)
   . (refine⟨⟨(m+1,y::(k++[fS c.l (i.l.l[m]'aa)])),(by rw[qW aa,<-g];rfl),aa⟩,jz,rfl,bG⟩)
   . generalize p : snap _ 20 _ = u
     obtain rfl:=p.symm.trans (qT (n:=19) (nR (n:=18) (aJ rfl (aJ rfl (aJ rfl (aJ rfl (aJ rfl (aJ rfl (aJ rfl (aJ rfl (aJ rfl (aJ rfl (aJ rfl (aJ rfl (aJ rfl (aJ rfl (aJ rfl (aJ rfl (aJ rfl (aJ rfl (aJ rfl (aJ rfl (aJ rfl (aJ rfl (aJ rfl (aJ rfl (aJ rfl (aJ (gV (f:=ic) (n:=17) (fun _=>rfl) rfl) rfl))))))))))))))))))))))))))) rfl)
     conv=>whnf
     exact⟨aU (y::k),rfl,by rw[g,take_of_length_le aa];exact fX.r⟩
theorem Es {i:Ins}{v w:AV}(h:fX v w):gm fX (i.cells.set 25 v) (i.cells.set 25 w):=by
 simp[gm];exact⟨.r,.r,.r,.r,.r,.r,.r,.r,.r,.r,.r,.r,.r,.r,.r,.r,.r,.r,.r,.r,.r,.r,.r,.r,.r,h,.r,.r,.r⟩
theorem JX (i:Ins)(b:BL Int)(a:i.l.l.length≤40)(d:zU i b.l):af 53 [i.av,aU b.l] (fun e=>e = .ret (.ao [(nK i b.l).av,i64 0])):=by
 refine(Xp i _ a d).oI ?_
 rintro _ ⟨v,rfl,c⟩
 exact⟨_,.ao [(nK i _).av,i64 0],rfl,.inr ⟨_,_,rfl,rfl,.inr ⟨_,_,rfl,rfl,Es c⟩,.r,trivial⟩,rfl⟩
end Go.Ago
end
section
namespace Go.Ago
open Go.Proofs List Nat Tryz
attribute [local irreducible] bN bM aZ bK b_ wr bp bL comp DC DP DW DV
attribute [local irreducible] dJ ct aL cH dP dI ec dX cB dM dR bV bn bB eA
theorem NO {l:List Bd}:((l.map Bd.cells).all fun e=>e.all AV.one)=true:=by simp[AV.one]
theorem Af {l:List Bd}:((l.map Bd.cells).all fun e=>e.all hY)=true:=by simp[hY,l_,nf]
theorem P7 (b:Bd)(bs:List Bd)(c:bs.length≤100):c9 18 [vX (b::bs)] .nil 0 (fun d H' _=>d = .ret (.az 5 0 (bs.length+1) 2)∧H'.get 5=some (.arr 2 (b.cells::bs.map Bd.cells))):=by
 refine zd func18 ?_;refine zg ?_
 repeat' ((first|refine zf ?_|refine Rq.mk NO ?_|(refine Rq.mk (tV 32 102 _ ag rfl rfl (by simp<;>omega) (by simp only[length_map,length_cons];omega)) ?_))<;>refine zg ?_)
 exact⟨congrArg AE.ret (dW rfl rfl ag rfl),congrArg some (eS rfl ag)⟩
theorem AL (l:List Bd)(h:l≠[])(c:l.length≤100):c9 18 [vX l] .nil 0 (fun a H' _=>a = .ret (.az 5 0 l.length 2)∧H'.get 5=some (.arr 2 (l.map Bd.cells))):=by
 rcases l with _|⟨b,d⟩
 . grind
 simp_all
 exact P7 b _ aa
def kS (c:Cd)(p:Nat)(a:Bd):Cd:=⟨c.p,⟨c.b.l.set p a,by rw[length_set];exact c.b.h⟩⟩
theorem fh {α:Type}{l:List α}{f:α->List AV}{n:Int}(h:n.toNat<l.length):(l.map f)[0+n.toNat]? = some (f l[n.toNat]):=by simp[h]
theorem zaf (c:Cd)(p:Int)(d:Bd)(j:0≤p∧p<c.b.l.length)(a:c.b.l.length≤100):af 44 [c.av,i64 p,d.av] (fun k=>k = .ret (kS c p.toNat d).av):=by
 refine zw func44 ?_;have g:c.b.l≠[]:=fun e=>by rw[e] at j;simp at j;omega
 have q:=c.b.h;refine zk ?_
 repeat' ((first|refine DV.new rfl (AL c.b.l g a) Af rfl ?_|refine cb (fh aa) ?_)<;>refine zk ?_)
 generalize m:snap _ 20 _=o
 obtain rfl:=m.symm.trans (nR (n:=19) (aJ rfl (aJ rfl (aJ rfl (aJ rfl (aJ rfl (aJ rfl (aJ (gu (f:=Bd.cells) (l:=c.b.l.set p.toNat d) (n:=18) (fun _=>rfl) rfl (by rw[map_set,Nat.zero_add]) (by rw[length_set])) rfl))))))))
 rfl
def tL (l:List Int)(x:Nat×Int):Prop:=1≤x.1∧x.1≤l.length∧x.2∈l∧∀(j:Nat) (h:j<l.length),j<x.1->l[j]≤x.2
theorem tL.first {l:List Int}(h:0<l.length):tL l (1,l[0]):=⟨Nat.le_refl _,h,getElem_mem h,fun j b a=>by
 grind⟩
theorem tL.step {l:List Int}{m:Nat}{n:Int}(h:tL l (m,n))(d:m<l.length):tL l (m+1,max n l[m]):=⟨aa,d,by have a:n∈l:=h.2.2.1;grind,fun j e c=>by
 have c:j<m+1:=c;show l[j]≤max n l[m];rcases Nat.lt_or_ge j m with a|a
 . have := h.2.2.2 j e a
   have:l[j]≤n:=this;omega
 grind⟩
def lV (l:List Int)(n:Nat):Prop:=∀(k:Nat) (h:k<l.length),k<n->¬(l[k]<0∨4000≤l[k])
theorem lV.nil {l}:lV l 0:=fun _ _ h=>absurd h (ag)
theorem lV.step {l:List Int}{n:Nat}(h:lV l n)(b:n<l.length)(c:¬(l[n]<0∨4000≤l[n])):lV l (n+1):=fun k d e=>by
 rcases Nat.lt_or_ge k n with a|a
 . exact h k _ a
 grind
attribute [local irreducible] lV
end Go.Ago
end
namespace Go.Ago
open Go.Proofs List Nat Tryz
attribute [local irreducible] bN bM aZ bK b_ wr bp bL comp DC DP DW DV
theorem NP {l:List Ins}:((l.map Ins.cells).all fun e=>e.all AV.one)=true:=by simp[AV.one]
theorem me {l:List Ins}:((l.map Ins.cells).all fun e=>e.all hY)=true:=by simp[hY,l_,nf]
theorem Qb (b:Ins)(bs:List Ins)(c:bs.length≤100000):c9 19 [np (b::bs)] .nil 0 (fun d H' _=>d = .ret (.az 5 0 (bs.length+1) 29)∧H'.get 5=some (.arr 29 (b.cells::bs.map Ins.cells))):=by
 refine zd func19 ?_;refine zg ?_
 repeat' ((first|refine zf ?_|refine Rq.mk NP ?_|(refine Rq.mk (tV 304 102 _ ag rfl rfl (by simp<;>omega) (by simp only[length_map,length_cons];omega)) ?_))<;>refine zg ?_)
 exact⟨congrArg AE.ret (dW rfl rfl ag rfl),congrArg some (eS rfl ag)⟩
theorem l6 (l:List Ins)(h:l≠[])(c:l.length≤100000):c9 19 [np l] .nil 0 (fun a H' _=>a = .ret (.az 5 0 l.length 29)∧H'.get 5=some (.arr 29 (l.map Ins.cells))):=by
 rcases l with _|⟨b,d⟩
 . grind
 simp_all
 exact Qb b _ aa
end Go.Ago
